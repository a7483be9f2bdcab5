/- TopIds: its loop walked, the rest by the executor. -/
import Derived.Test.YtmlipiegjgklcaaGreatIe
import Derived.Test.YtmlipiegjgklcaaGreatFo
/- TopIds: its loop walked, the rest by the executor. -/
noncomputable section
set_option linter.unusedVariables false
set_option linter.unusedSimpArgs false
namespace Go.Proofs.YtmlipiegjgklcaaGreat.M
open Go Go.RowKit Go.ChangeMaps Go.Proofs.YtmlipiegjgklcaaGreatW.PrintWords Go.Proofs.YtmlipiegjgklcaaGreatW.PrintLast
open Go.Ax (Holds)
/-- The world of the loop. -/
structure AtI (ρ : Nat → Int) (w0 w : World) (ids : List Int) (ph pi : Go.Ax.Place) (bc i : Nat) : Prop where
  bel : Below w0.heap.size w0 w
  hs : Holds ρ (fun _ => none) w ph Go.Ax.Top.hintsO
  st : Holds ρ (fun _ => none) w pi (.cells 1 200 .leaf)
  is : ∀ j, j < 200 → w.cell? ⟨pi.blk, pi.off + j, none⟩ = some (.int .i64 (if j < i then rd ids j else 7 * j))
  cfg : w.heap[bc]? = some (.cells #[.slice (some ⟨ph.blk, ph.off, none⟩) 2 2, .int .i64 50, .int .i64 8, .int .i64 30, .int .i64 3, .int .i64 5, .int .i64 5, .int .i64 2, .int .i64 10, .int .i64 4, .slice (some ⟨pi.blk, pi.off, none⟩) 200 200] 59 (0, 0))
  h1 : w0.heap.size ≤ ph.blk
  h2 : w0.heap.size ≤ pi.blk
  h3 : w0.heap.size ≤ bc
  n1 : ph.blk ≠ pi.blk
  n2 : bc ≠ ph.blk
  n3 : bc ≠ pi.blk
theorem AtI.put {ρ w0 w ids ph pi bc i} {jb : Int} (h : AtI ρ w0 w ids ph pi bc i) (hi : i < 200) (hj : rd ids (i : Int) = jb) : AtI ρ w0 (w.setCell ⟨pi.blk, pi.off + i, none⟩ (.int .i64 jb)).drew ids ph pi bc (i + 1) := by
  have hb : ∀ k, k ≠ pi.blk → ((w.setCell ⟨pi.blk, pi.off + i, none⟩ (.int .i64 jb)).drew).heap[k]? = w.heap[k]? := fun k hk => Below.heap_setCell _ _ _ _ hk
  refine ⟨Below.drew (Below.setCell h.bel h.h2 _), h.hs.of_same (hb _ h.n1), ?_, fun j hj2 => ?_, by rw [hb _ h.n3]; exact h.cfg, h.h1, h.h2, h.h3, h.n1, h.n2, h.n3⟩
  · have := h.st.stored (l := [.undef]) (vs := [.int .i64 jb]) (o := i) (c' := .leaf) (by simp [Go.Ax.VL, Go.Ax.V]) (by simp [Value.oneCell']) (by simp; omega) (fun k => by
      have e : ∀ k, Go.Ax.cellAt 1 .leaf k = .undef := fun k => by unfold Go.Ax.cellAt; rw [Go.Ax.PT.get_leaf]; simp
      rw [e]
      split
      · have : k - i = 0 := by simp at *; omega
        rw [this]; rfl
      · rfl)
    exact this.of_same rfl
  · show (w.setCell ⟨pi.blk, pi.off + i, none⟩ (.int .i64 jb)).cell? _ = _
    by_cases e : j = i
    · subst e
      rw [World.cell?_setCell_same w _ _ (h.is j hi), if_pos (by omega), ← hj]
    · have := World.cell?_setCells_out pi.blk [.int .i64 jb] (pi.off + i) w ⟨pi.blk, pi.off + j, none⟩ (fun _ _ => by simp; omega)
      have e2 : w.setCells pi.blk (pi.off + i) [.int .i64 jb] = w.setCell ⟨pi.blk, pi.off + i, none⟩ (.int .i64 jb) := rfl
      rw [e2] at this
      rw [this, h.is j hj2]
      by_cases hlt : j < i
      · rw [if_pos hlt, if_pos (by omega)]
      · rw [if_neg hlt, if_neg (by omega)]
theorem AtI.c10 {ρ w0 w ids ph pi bc i} (h : AtI ρ w0 w ids ph pi bc i) : w.cell? ⟨bc, 10, none⟩ = some (.slice (some ⟨pi.blk, pi.off, none⟩) 200 200) := by unfold World.cell?; rw [h.cfg]; rfl
theorem AtI.fz {ρ w0 w ids ph pi bc i} (h : AtI ρ w0 w ids ph pi bc i) (j : Nat) (hj : j < 200) : w.frozen? ⟨pi.blk, pi.off + j, none⟩ = false := by
  obtain ⟨k1, k2, _⟩ := h.st
  exact (k1 (pi.off + j) (by omega)).2
theorem AtI.start {ρ : Nat → Int} {w0 w1 w2 : World} {ids : List Int} {ph pi : Go.Ax.Place} {bc : Nat} (hb : Below w0.heap.size w0 w1) (h2 : Below w1.heap.size w1 w2) (k1 : w1.heap.size ≤ ph.blk) (k2 : w1.heap.size ≤ pi.blk) (n : ph.blk ≠ pi.blk) (Hh : Holds ρ (fun _ => none) w2 ph Go.Ax.Top.hintsO) (Hi : Holds ρ (fun _ => none) w2 pi Go.Ax.Top.idsO) (hbc : w2.heap.size = bc) :
    AtI ρ w0 (w2.alloc (.cells #[.slice (some ⟨ph.blk, ph.off, none⟩) 2 2, .int .i64 50, .int .i64 8, .int .i64 30, .int .i64 3, .int .i64 5, .int .i64 5, .int .i64 2, .int .i64 10, .int .i64 4, .slice (some ⟨pi.blk, pi.off, none⟩) 200 200] 59)) ids ph pi bc 0 := by
  have a1 := hb.size
  have a2 := h2.size
  have l1 : ph.blk < w2.heap.size := Hh.2.2.1
  have l2 : pi.blk < w2.heap.size := Hi.2.2.1
  have al : ∀ o k, k < w2.heap.size → (w2.alloc o).heap[k]? = w2.heap[k]? := fun o k hk => Go.Ax.alloc_other o k hk
  refine ⟨⟨h2.os.trans hb.os, h2.tape.trans hb.tape, h2.output.trans hb.output, by show _ ≤ (w2.heap.push _).size; simp; omega, fun k hk => by rw [al _ k (by omega), h2.block k (by omega), hb.block k hk]⟩, Hh.of_same (al _ _ l1), ?_, fun j hj => ?_, ?_, by omega, by omega, by omega, n, by omega, by omega⟩
  · have h := Hi.of_same (w' := w2.alloc _) (al (.cells #[.slice (some ⟨ph.blk, ph.off, none⟩) 2 2, .int .i64 50, .int .i64 8, .int .i64 30, .int .i64 3, .int .i64 5, .int .i64 5, .int .i64 2, .int .i64 10, .int .i64 4, .slice (some ⟨pi.blk, pi.off, none⟩) 200 200] 59) _ l2)
    exact Go.Ax.Top.Holds.forget (o := Go.Ax.Top.idsO) (sz := 1) (n := 200) rfl h
  · have hc : (w2.alloc (.cells #[.slice (some ⟨ph.blk, ph.off, none⟩) 2 2, .int .i64 50, .int .i64 8, .int .i64 30, .int .i64 3, .int .i64 5, .int .i64 5, .int .i64 2, .int .i64 10, .int .i64 4, .slice (some ⟨pi.blk, pi.off, none⟩) 200 200] 59)).cell? ⟨pi.blk, pi.off + j, none⟩ = w2.cell? ⟨pi.blk, pi.off + j, none⟩ := by
      unfold World.cell?
      rw [al _ _ l2]
    rw [hc, Go.Ax.Top.ids_at Hi j hj, if_neg (by omega)]
  · subst hbc
    show (w2.heap.push _)[w2.heap.size]? = _
    simp
theorem results_at4 {fn : Func} {a : Act} {w : World} (hr : fn.results = #[.tmp 4]) (h : a.tmps.getD 4 Go.undef = .bool true) : (results fn a.tmps).run Tryz.prog w = .ok (.bool true) w := by
  have h' : a.tmps[4]?.getD Go.undef = .bool true := by rw [← Array.getD_eq_getD_getElem?]; exact h
  unfold results
  rw [hr]
  simp [h']
theorem tail_ok {ρ : Nat → Int} {w0 w : World} {ids : List Int} {which : Int} {ph pi : Go.Ax.Place} {bc i : Nat} {a : Act} (hr : Go.Ax.Ranges ρ Go.Ax.Top.rngC) (hρ : Go.Ax.Top.ρI which ids = ρ) (h : AtI ρ w0 w ids ph pi bc i) (hx : i = ids.length ∨ i = 200) (hi : i ≤ ids.length) (hi2 : i ≤ 200)
    (hsz : a.tmps.size = 146) (hd : a.defers = []) (t1 : a.tmps.getD 1 Go.undef = .int .i64 which) (t4 : a.tmps.getD 4 Go.undef = .bool false) (t5 : a.tmps.getD 5 Go.undef = .pointer (some ⟨bc, 0, none⟩))
    {Q : Exit → Act → World → Prop} {K : Act → World → Prop} (hK : ∀ a w, (Go.Ax.Top.sndC Go.Ax.Top.restI).wp Tryz.prog Q a w → K a w) (hQ : ∀ a' w', a'.tmps.getD 4 Go.undef = .bool true → a'.defers = [] → a'.tmps.size = 146 → Below w0.heap.size w0 w' → Q .ret a' w') : (Go.Ax.Top.fstC Go.Ax.Top.restI).wp Tryz.prog (Exit.then K Q) a w := by
  have hsym : Holds ρ (fun _ => none) w pi Go.Ax.Top.symsO := Go.Ax.Top.syms_of h.st fun j hj => by
    rw [h.is j hj, ← hρ]
    congr 2
    unfold Go.Ax.Top.ρI
    rw [if_neg (show ¬ j + 1 = 0 by omega)]
    show _ = if j + 1 - 1 < ids.length then ids.getD (j + 1 - 1) 0 else if j + 1 - 1 < 200 then 7 * ((j + 1 - 1 : Nat) : Int) else 0
    rw [Nat.add_sub_cancel]
    by_cases hlt : j < i
    · rw [if_pos hlt, if_pos (by omega)]; unfold Go.Proofs.YtmlipiegjgklcaaGreatW.PrintWords.rd; simp
    · rw [if_neg hlt, if_neg (by omega), if_pos hj]
  have w0' : which = ρ 0 := by rw [← hρ]; rfl
  rw [w0'] at t1
  have cs : ρ 0 % 18446744073709551616 % 3 = 0 ∨ ρ 0 % 18446744073709551616 % 3 = 1 ∨ ρ 0 % 18446744073709551616 % 3 = 2 := by omega
  rcases cs with c | c | c
  · exact Go.Ax.Top.rest_ok (Go.Ax.Top.rngI_ok hr c) (Go.Ax.Top.treeR0_ok hr) Go.Ax.Top.l_0 h.bel h.hs hsym h.cfg h.h1 h.h2 h.h3 h.n1 h.n2 h.n3 hsz hd t1 t4 t5 hK hQ
  · exact Go.Ax.Top.rest_ok (Go.Ax.Top.rngI_ok hr c) (Go.Ax.Top.treeR1_ok hr) Go.Ax.Top.l_1 h.bel h.hs hsym h.cfg h.h1 h.h2 h.h3 h.n1 h.n2 h.n3 hsz hd t1 t4 t5 hK hQ
  · exact Go.Ax.Top.rest_ok (Go.Ax.Top.rngI_ok hr c) (Go.Ax.Top.treeR2_ok hr) Go.Ax.Top.l_2 h.bel h.hs hsym h.cfg h.h1 h.h2 h.h3 h.n1 h.n2 h.n3 hsz hd t1 t4 t5 hK hQ
set_option maxHeartbeats 4000000 in
set_option maxRecDepth 100000 in
theorem topIds_walk (w : World) (A : Option Addr) (c : Nat) (ids : List Int) (which : Int) (hh : Kd.C (Kd.int .i64) w A ids.length ids) (hc : ids.length ≤ c) (ww : (Lit.int .i64 which).wf = true) (wi : ∀ n ∈ ids, (Lit.int .i64 n).wf = true) : Calls Tryz.prog 5 #[.slice A ids.length c, .int .i64 which] w fun e w' => e = .returned (.bool true) ∧ Below w.heap.size w w' := by
  have H := Aside0.mk hh
  clear hh
  obtain ⟨ρ, hρ⟩ : ∃ ρ, Go.Ax.Top.ρI which ids = ρ := ⟨_, rfl⟩
  have RR : Aside0 (Go.Ax.Ranges ρ Go.Ax.Top.rngC) := ⟨by rw [← hρ]; exact Go.Ax.Top.ρI_ok (Go.Ax.Top.wf_i64 ww) fun n hn => Go.Ax.Top.wf_i64 (wi n hn)⟩
  have PP := Aside0.mk hρ
  clear hρ ww wi
  go_enter Tryz.func5, Tryz.ntmps5
  (try simp only [List.append_eq, List.cons_append, List.nil_append])
  go_wp2_with fail
  refine (Go.Ax.Top.awake_calls RR.out w).mono ?_
  rintro e w1 ⟨rfl, hb⟩
  have B1 := Aside0.mk hb
  clear hb
  simp only
  go_wp2_with fail
  refine (Go.Ax.Top.plain_calls RR.out w1).mono ?_
  rintro e w2 ⟨ph, pi, rfl, hb, hph, hpi, hne, Hh, Hi⟩
  have B2 := Aside0.mk (And.intro hb (And.intro hph (And.intro hpi (And.intro hne (And.intro Hh Hi)))))
  clear hb hph hpi hne Hh Hi
  simp only [Go.Ax.Top.plainV]
  go_wp2_with fail
  obtain ⟨bc, hbc⟩ : ∃ bc, w2.heap.size = bc := ⟨_, rfl⟩
  have Q0 : Aside0 (AtI ρ w (w2.alloc (.cells #[.slice (some ⟨ph.blk, ph.off, none⟩) 2 2, .int .i64 50, .int .i64 8, .int .i64 30, .int .i64 3, .int .i64 5, .int .i64 5, .int .i64 2, .int .i64 10, .int .i64 4, .slice (some ⟨pi.blk, pi.off, none⟩) 200 200] 59)) ids ph pi bc 0) := ⟨AtI.start B1.out B2.out.1 B2.out.2.1 B2.out.2.2.1 B2.out.2.2.2.1 B2.out.2.2.2.2.1 B2.out.2.2.2.2.2 hbc⟩
  rw [hbc]
  clear B1 B2 hbc
  generalize w2.alloc _ = W2 at *
  go_loopw [6] (fun v6 wr => ∃ (i : Nat), i ≤ ids.length ∧ i ≤ 200 ∧ v6 = .int .i64 i ∧ Aside0 (AtI ρ w wr ids ph pi bc i)) (fun v6 _ => 200 - (intOf v6).toNat)
  case atStart => exact ⟨0, by omega, by omega, rfl, Q0⟩
  case round =>
    obtain ⟨i, hi, hi2, rfl, Q3⟩ := hrel
    clear Q0
    have hc10 := Q3.out.c10
    by_cases hlt : i < ids.length ∧ i < 200
    · have hd1 : decide ((i : Int) < (ids.length : Int)) = true := decide_eq_true (by omega)
      have hd2 : decide (i < ids.length) = true := decide_eq_true hlt.1
      have hd5 : decide ((i : Int) < 200) = true := decide_eq_true (by omega)
      have hd6 : ((i : Int) < 200) = True := eq_true (by omega)
      have hd8 : (i < ids.length) = True := eq_true hlt.1
      have hd9 : (i < 200) = True := eq_true hlt.2
      have LI := Aside0.mk hlt
      obtain ⟨jb, hjb⟩ : ∃ jb, rd ids (i : Int) = jb := ⟨_, rfl⟩
      obtain ⟨ad, rfl, hcx⟩ := Kd.at_int (Kd.C_below H.out Q3.out.bel) (i : Int) (by omega) (by omega)
      rw [hjb, Int.toNat_natCast] at hcx
      have hs1 := Q3.out.is i hlt.2
      have hs2 := Q3.out.fz i hlt.2
      have JB := Aside0.mk hjb
      clear hlt hjb
      go_wp2_with fail
      go_big_region
      go_wp2_with fail
      refine ⟨⟨i + 1, by have := LI.out; omega, by have := LI.out; omega, by congr 1, ⟨Q3.out.put LI.out.2 JB.out⟩⟩, ?_⟩
      have := LI.out
      simp [intOf]; omega
    · have LX : Aside0 (i = ids.length ∨ i = 200) := ⟨by omega⟩
      by_cases h1 : i < ids.length
      · have h3 : ¬ i < 200 := by omega
        have hd1 : decide ((i : Int) < (ids.length : Int)) = true := decide_eq_true (by omega)
        have hd2 : decide (i < ids.length) = true := decide_eq_true h1
        have hd8 : (i < ids.length) = True := eq_true h1
        have hd5 : decide ((i : Int) < 200) = false := decide_eq_false (by omega)
        have hd6 : ((i : Int) < 200) = False := eq_false (by omega)
        have hd9 : (i < 200) = False := eq_false h3
        clear h1 h3 hlt
        go_upto_region 8 with fail
        rename_i KQ
        exact tail_ok RR.out PP.out Q3.out LX.out hi hi2 rfl rfl rfl rfl rfl KQ (fun a' w' x1 x2 x3 x4 => ⟨x2, .bool true, results_at4 rfl x1, rfl, x4⟩)
      · have hd1 : decide ((i : Int) < (ids.length : Int)) = false := decide_eq_false (by omega)
        have hd2 : decide (i < ids.length) = false := decide_eq_false h1
        have hd8 : (i < ids.length) = False := eq_false h1
        clear h1 hlt
        go_upto_region 8 with fail
        rename_i KQ
        exact tail_ok RR.out PP.out Q3.out LX.out hi hi2 rfl rfl rfl rfl rfl KQ (fun a' w' x1 x2 x3 x4 => ⟨x2, .bool true, results_at4 rfl x1, rfl, x4⟩)
theorem TopIds_calls (w : World) (A : Option Addr) (c : Nat) (ids : List Int) (which : Int) (hh : Kd.C (Kd.int .i64) w A ids.length ids) (hc : ids.length ≤ c) (wi : ∀ n ∈ ids, (Lit.int .i64 n).wf = true) (ww : (Lit.int .i64 which).wf = true) : Calls Tryz.prog 5 #[.slice A ids.length c, .int .i64 which] w fun e w' => e = .returned (.bool true) ∧ Below w.heap.size w w' :=
  topIds_walk w A c ids which hh hc ww wi
end Go.Proofs.YtmlipiegjgklcaaGreat.M
end
