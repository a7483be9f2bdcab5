/- Both tables side by side: each call keeps the other table. -/
import Derived.Test.YtojjkgnkdcekpaaHTab23
set_option linter.unusedVariables false
set_option linter.unusedSimpArgs false
namespace Go.Proofs.Ytojjkgnkdcekpaa.M
open Go Go.RowKit Go.ChangeMaps Go.Proofs.YtojjkgnkdcekpaaW.PrintWords Go.Proofs.YtojjkgnkdcekpaaW.PrintLast Go.Proofs.YtojjkgnkdcekpaaW.PrintMore Go.Proofs.Ytojjkgnkdcekpaa.P

/-- Both tables (X: blocks of others that neither may write). -/
structure ActsAt (w0 w : World) (X : Nat → Prop) (g m r : Nat) (most : Int) (xs ys : List S35) (n : Nat) (v vr : Value) : Prop where
  tab : TabAt w w0.heap.size (fun k => (k ≠ r ∧ vr.ownBlock ≠ some k) ∧ ¬ X k) g most xs n (cntA xs) v m
  ref : RTab w w0.heap.size (fun k => ¬ X k) r most ys vr
  bel : Below w0.heap.size w0 w
section
variable {w0 w w' : World} {X X' : Nat → Prop} {g m r : Nat} {most : Int} {xs ys xs' ys' : List S35} {n n' : Nat} {v vr v' vr' : Value}
theorem ActsAt.next (h : ActsAt w0 w X g m r most xs ys n v vr) (hb : Below w.heap.size w w') : ActsAt w0 w' X g m r most xs ys n v vr := ⟨h.tab.below hb, h.ref.below hb, below_nx h.bel hb⟩
theorem ActsAt.other (h : ActsAt w0 w X g m r most xs ys n v vr) (hX : ∀ k, k < w.heap.size → X' k → X k) : ActsAt w0 w X' g m r most xs ys n v vr :=
  ⟨h.tab.bound.mono (fun k hk => ⟨hk.1.1, fun e => hk.1.2 (hX k hk.2 e)⟩), h.ref.bound.mono (fun k hk e => hk.1 (hX k hk.2 e)), h.bel⟩
theorem ActsAt.wrote (h : ActsAt w0 w X g m r most xs ys n v vr) (hk : Kept w w' X) (hb : Below w0.heap.size w w') : ActsAt w0 w' X g m r most xs ys n v vr :=
  ⟨TabAt.kept h.tab hk (fun k hs hx => hs.2 hx), h.ref.kept hk h.ref.sg (fun k e => h.ref.row.1 k e), h.bel.trans hb⟩
theorem ActsAt.tfresh (h : ActsAt w0 w X g m r most xs ys n v vr) (hX : ∀ k, X k → k < w.heap.size) : ∀ k, w.heap.size ≤ k → (k ≠ r ∧ vr.ownBlock ≠ some k) ∧ ¬ X k := fun k hk =>
  ⟨⟨fun e => by have := blk_lt h.ref.blk; omega, fun e => by have := Kd.R_lt h.ref.row k e; omega⟩, fun e => by have := hX k e; omega⟩
theorem ActsAt.tmoved (h : ActsAt w0 w X g m r most xs ys n v vr) (hT : TabAt w' w0.heap.size (fun k => (k ≠ r ∧ vr.ownBlock ≠ some k) ∧ ¬ X k) g most xs' n' (cntA xs') v' m) (hb : Below w0.heap.size w w') (hk : Kept w w' (fun k => (k ≠ r ∧ vr.ownBlock ≠ some k) ∧ ¬ X k)) :
    ActsAt w0 w' X g m r most xs' ys n' v' vr ∧ Kept w w' (fun k => ¬ X k) :=
  ⟨⟨hT, h.ref.kept hk (fun e => e.1.1 rfl) (fun k hv e => e.1.2 hv), h.bel.trans hb⟩, hk.mono (fun k hk => hk.2)⟩
def refS (X : Nat → Prop) (g m : Nat) (v : Value) (k : Nat) : Prop := (k ≠ g ∧ k ≠ m ∧ v.ownBlock ≠ some k) ∧ ¬ X k
theorem ActsAt.start (h : ActsAt w0 w X g m r most xs ys n v vr) : RTab w w0.heap.size (refS X g m v) r most ys vr :=
  h.ref.reok ⟨⟨fun e => h.tab.sg.1.1 e.symm, fun e => h.tab.sm.1.1 e.symm, fun e => (h.tab.row.1 r e).1.1 rfl⟩, h.ref.sg⟩
    (fun k hk => ⟨⟨fun e => h.tab.sg.1.2 (by rw [← e]; exact hk), fun e => h.tab.sm.1.2 (by rw [← e]; exact hk), fun e => (h.tab.row.1 k e).1.2 hk⟩, h.ref.row.1 k hk⟩)
theorem ActsAt.rfresh (h : ActsAt w0 w X g m r most xs ys n v vr) (hX : ∀ k, X k → k < w.heap.size) : ∀ k, w.heap.size ≤ k → refS X g m v k := fun k hk =>
  ⟨⟨fun e => by have := blk_lt h.tab.blk; omega, fun e => by have := Many_lt h.tab.many; omega, fun e => by have := Kd.R_lt h.tab.row k e; omega⟩, fun e => by have := hX k e; omega⟩
theorem ActsAt.rmoved (h : ActsAt w0 w X g m r most xs ys n v vr) (hR : RTab w' w0.heap.size (refS X g m v) r most ys' vr') (hb : Below w0.heap.size w w') (hk : Kept w w' (refS X g m v)) :
    ActsAt w0 w' X g m r most xs ys' n v vr' ∧ Kept w w' (fun k => ¬ X k) := by
  have tight : TabAt w w0.heap.size (fun k => (k = g ∨ k = m ∨ v.ownBlock = some k) ∧ ¬ X k) g most xs n (cntA xs) v m :=
    ⟨h.tab.blk, h.tab.lo, h.tab.mlo, Kd.R_reok k35_E h.tab.row (fun k hk => ⟨Or.inr (Or.inr hk), (h.tab.row.1 k hk).2⟩), h.tab.many, ⟨Or.inl rfl, h.tab.sg.2⟩, ⟨Or.inr (Or.inl rfl), h.tab.sm.2⟩⟩
  have t2 : TabAt w' w0.heap.size (fun k => (k = g ∨ k = m ∨ v.ownBlock = some k) ∧ ¬ X k) g most xs n (cntA xs) v m := TabAt.kept tight hk (fun k hs h2 => by
    rcases hs.1 with e | e | e
    · exact h2.1.1 e
    · exact h2.1.2.1 e
    · exact h2.1.2.2 e)
  refine ⟨⟨t2.mono (fun k hs => ⟨⟨fun e => ?_, fun e => ?_⟩, hs.2⟩), hR.mono (fun k hk => hk.2), h.bel.trans hb⟩, hk.mono (fun k hk => hk.2)⟩
  · have h2 := h.start.sg.1
    rcases hs.1 with e2 | e2 | e2
    · exact h2.1 (by rw [← e, e2])
    · exact h2.2.1 (by rw [← e, e2])
    · exact h2.2.2 (by rw [e2, e])
  · have h2 := (hR.row.1 k e).1
    rcases hs.1 with e2 | e2 | e2
    · exact h2.1 e2
    · exact h2.2.1 e2
    · exact h2.2.2 e2
theorem tab_n (h : TabAt w w0.heap.size X g most xs n (cntA xs) v m) (hn : n ≤ n') : TabAt w w0.heap.size X g most xs n' (cntA xs) v m := ⟨h.blk, h.lo, h.mlo, h.row, Many_mono h.many hn, h.sg, h.sm⟩
theorem tAdd (h : ActsAt w0 w X g m r most xs ys n v vr) (hX : ∀ k, X k → k < w.heap.size) (x : S35) (hl : (xs.length : Int) ≤ most) (hm : most ≤ 16) (hn : n ≤ 10000) : Calls Try.prog 12 #[.pointer (some ⟨g, 0, none⟩), v35 x] w fun e w' => e = .returned (.int .i64 (addRes most xs x).1) ∧ (∃ v', ActsAt w0 w' X g m r most (addRes most xs x).2 ys (n + 1) v' vr) ∧ Kept w w' (fun k => ¬ X k) := by
  unfold addRes
  by_cases hx : OkA x
  · rw [if_pos hx]
    by_cases hd : (xs.length : Int) < most
    · rw [if_pos hd]
      refine (addC h.tab x hx (good_A hx) hd (by omega) (by omega) (h.tfresh hX)).mono ?_
      rintro e w' ⟨rfl, ⟨v', hT⟩, hb, hk⟩
      have := h.tmoved hT hb hk
      exact ⟨rfl, ⟨v', this.1⟩, this.2⟩
    · rw [if_neg hd]
      refine (Add_full h.tab x hx (by omega)).mono ?_
      rintro e w' ⟨rfl, hb⟩
      have := h.next hb
      exact ⟨rfl, ⟨v, ⟨tab_n this.tab (Nat.le_succ _), this.ref, this.bel⟩⟩, Kept.of_below hb _⟩
  · rw [if_neg hx]
    refine (Add_bad w g x hx).mono ?_
    rintro e w' ⟨rfl, hb⟩
    have := h.next hb
    exact ⟨rfl, ⟨v, ⟨tab_n this.tab (Nat.le_succ _), this.ref, this.bel⟩⟩, Kept.of_below hb _⟩
theorem rAdd (h : ActsAt w0 w X g m r most xs ys n v vr) (hX : ∀ k, X k → k < w.heap.size) (x : S35) (hl : (ys.length : Int) ≤ most) (hm : most ≤ 16) : Calls Try.prog 13 #[.pointer (some ⟨r, 0, none⟩), v35 x] w fun e w' => e = .returned (.int .i64 (addRes most ys x).1) ∧ (∃ vr', ActsAt w0 w' X g m r most xs (addRes most ys x).2 n v vr') ∧ Kept w w' (fun k => ¬ X k) := by
  unfold addRes
  by_cases hx : OkA x
  · rw [if_pos hx]
    by_cases hd : (ys.length : Int) < most
    · rw [if_pos hd]
      refine (RAdd_good h.start x hx hd (by omega) (h.rfresh hX)).mono ?_
      rintro e w' ⟨rfl, ⟨v', hT⟩, hb, hk⟩
      have := h.rmoved hT hb hk
      exact ⟨rfl, ⟨v', this.1⟩, this.2⟩
    · rw [if_neg hd]
      refine (RAdd_full h.ref x hx (by omega)).mono ?_
      rintro e w' ⟨rfl, hb⟩
      exact ⟨rfl, ⟨vr, h.next hb⟩, Kept.of_below hb _⟩
  · rw [if_neg hx]
    refine (RAdd_bad w r x hx).mono ?_
    rintro e w' ⟨rfl, hb⟩
    exact ⟨rfl, ⟨vr, h.next hb⟩, Kept.of_below hb _⟩
theorem tTake (h : ActsAt w0 w X g m r most xs ys n v vr) (hX : ∀ k, X k → k < w.heap.size) (hok : ∀ x ∈ xs, OkA x) (addr id : Int) (nq : ByteArray) (t cl : Int) (hg : (keyQ addr id nq t).Good) (hl : xs.length ≤ 16) (hn : n ≤ 10000) : Calls Try.prog 14 #[.pointer (some ⟨g, 0, none⟩), .int .i64 addr, .int .i64 id, .agg #[.string nq, .int .i64 t, .int .i64 cl]] w fun e w' => e = .returned (.tuple #[v35 (takeRes (fitsQ addr id nq t cl) xs).1, .int .i64 (takeRes (fitsQ addr id nq t cl) xs).2.1]) ∧ (∃ v', ActsAt w0 w' X g m r most (takeRes (fitsQ addr id nq t cl) xs).2.2 ys (n + 1) v' vr) ∧ Kept w w' (fun k => ¬ X k) := by
  rcases take_dec (fitsQ addr id nq t cl) xs with hno | ⟨j, hj, h1, h2⟩
  · rw [take_no hno]
    refine (takeN h.tab addr id nq t cl hg ?_).mono ?_
    · by_cases hc : cl = 1
      · refine Or.inr (fun x hx => ?_)
        have := hno x hx
        rw [fits_eq (hok x hx), decide_eq_true hc, Bool.true_and] at this
        exact this
      · exact Or.inl hc
    · rintro e w' ⟨rfl, hb⟩
      have := h.next hb
      exact ⟨rfl, ⟨v, ⟨tab_n this.tab (Nat.le_succ _), this.ref, this.bel⟩⟩, Kept.of_below hb _⟩
  · rw [take_yes j hj h1 h2]
    rw [fits_eq (hok _ (List.getElem_mem hj)), Bool.and_eq_true, decide_eq_true_eq] at h1
    obtain ⟨rfl, h1⟩ := h1
    refine (takeC h.tab (by omega) (by omega) (h.tfresh hX) addr id nq t hg j hj h1 (fun i hi => ?_)).mono ?_
    · have := h2 i hi
      rw [fits_eq (hok _ (List.getElem_mem _)), decide_eq_true rfl, Bool.true_and] at this
      exact this
    · rintro e w' ⟨rfl, ⟨v', hT⟩, hb, hk⟩
      have := h.tmoved hT hb hk
      exact ⟨rfl, ⟨v', this.1⟩, this.2⟩
theorem rTake (h : ActsAt w0 w X g m r most xs ys n v vr) (hX : ∀ k, X k → k < w.heap.size) (addr id : Int) (nq : ByteArray) (t cl : Int) (hl : ys.length ≤ 16) : Calls Try.prog 15 #[.pointer (some ⟨r, 0, none⟩), .int .i64 addr, .int .i64 id, .agg #[.string nq, .int .i64 t, .int .i64 cl]] w fun e w' => e = .returned (.tuple #[v35 (takeRes (fitsQ addr id nq t cl) ys).1, .int .i64 (takeRes (fitsQ addr id nq t cl) ys).2.1]) ∧ (∃ vr', ActsAt w0 w' X g m r most xs (takeRes (fitsQ addr id nq t cl) ys).2.2 n v vr') ∧ Kept w w' (fun k => ¬ X k) := by
  refine (RTake_calls h.start (by omega) (h.rfresh hX) addr id nq t cl).mono ?_
  rintro e w' (⟨hno, rfl, hb⟩ | ⟨j, hj, h1, h2, rfl, ⟨v', hT⟩, hb, hk⟩)
  · rw [take_no (fun x hx => by obtain ⟨i, hi, rfl⟩ := List.getElem_of_mem hx; exact hno i hi)]
    exact ⟨rfl, ⟨vr, h.next hb⟩, Kept.of_below hb _⟩
  · rw [take_yes j hj h1 h2]
    have := h.rmoved hT hb hk
    exact ⟨rfl, ⟨v', this.1⟩, this.2⟩
theorem tDue (h : ActsAt w0 w X g m r most xs ys n v vr) (hX : ∀ k, X k → k < w.heap.size) (hok : ∀ x ∈ xs, OkA x) (hl : xs.length ≤ 16) (hn : n ≤ 10000) (now : Int) : Calls Try.prog 16 #[.pointer (some ⟨g, 0, none⟩), .int .i64 now] w fun e w' => ∃ uo, e = .returned uo ∧ Kd.R k35 35 w' w.heap.size (fun _ => True) uo (xs.filter (isDue now)) ∧ (∃ v', ActsAt w0 w' (fun k => X k ∨ uo.ownBlock = some k) g m r most (xs.filter (notDue now)) ys (n + 16) v' vr) ∧ Kept w w' (fun k => ¬ X k) := by
  refine (dueC h.tab (by omega) (by omega) (h.tfresh hX) (fun x hx => good_A (hok x hx)) now).mono ?_
  rintro e w' ⟨uo, v', rfl, hr, hT, hb, hk⟩
  obtain ⟨h1, h2⟩ := h.tmoved (hT.mono (fun k hk => hk.1)) hb hk
  have hu : ∀ k, uo.ownBlock = some k → w.heap.size ≤ k := fun k e => Kd.R_base hr k e
  refine ⟨uo, rfl, hr, ⟨v', ⟨tab_n (hT.mono (fun k hk => ⟨hk.1.1, fun e => e.elim hk.1.2 hk.2⟩)) (by omega), ?_, h1.bel⟩⟩, h2⟩
  have hR := h.ref.kept hk (fun e => e.1.1 rfl) (fun k hv e => e.1.2 hv)
  exact hR.reok (fun e => e.elim h.ref.sg (fun e2 => by have := hu _ e2; have := blk_lt h.ref.blk; omega)) (fun k hk e => e.elim (h.ref.row.1 k hk) (fun e2 => by have := hu _ e2; have := Kd.R_lt h.ref.row k hk; omega))
theorem rDue (h : ActsAt w0 w X g m r most xs ys n v vr) (hX : ∀ k, X k → k < w.heap.size) (hl : ys.length ≤ 16) (now : Int) : Calls Try.prog 18 #[.pointer (some ⟨r, 0, none⟩), .int .i64 now] w fun e w' => ∃ uo, e = .returned uo ∧ Kd.R k35 35 w' w.heap.size (fun _ => True) uo (ys.filter (isDue now)) ∧ (∃ vr', ActsAt w0 w' X g m r most xs (ys.filter (notDue now)) n v vr') ∧ Kept w w' (fun k => ¬ X k) := by
  refine (RDue_calls h.start.bound (by omega) (fun k hk => hk.2) now).mono ?_
  rintro e w' ⟨uo, v', rfl, hr, hT, hb, hk⟩
  obtain ⟨h1, h2⟩ := h.rmoved (hT.mono (fun k hk => by rcases hk.1 with h2 | h2; exact h2.1; exact h.rfresh hX k h2)) hb (hk.mono (fun k hk => hk.1))
  exact ⟨uo, rfl, hr, ⟨v', h1⟩, h2⟩
end
end Go.Proofs.Ytojjkgnkdcekpaa.M
