/- Table.Due. -/
import Derived.Test.YtojjkgnkdcekpaaHTab8
set_option linter.unusedVariables false
set_option linter.unusedSimpArgs false
namespace Go.Proofs.Ytojjkgnkdcekpaa.M
open Go Go.RowKit Go.ChangeMaps Go.Proofs.YtojjkgnkdcekpaaW.PrintWords Go.Proofs.YtojjkgnkdcekpaaW.PrintLast Go.Proofs.YtojjkgnkdcekpaaW.PrintMore Go.Proofs.Ytojjkgnkdcekpaa.P

noncomputable def decd (f : K66 → Int) (l : List S35) : K66 → Int := l.foldl (fun f x => upd f (keyA x) (f (keyA x) - 1)) f
theorem decd_snoc (f : K66 → Int) (l : List S35) (x : S35) : decd f (l ++ [x]) = upd (decd f l) (keyA x) (decd f l (keyA x) - 1) := by
  unfold decd
  rw [List.foldl_append]
  rfl
theorem decd_le (C : Int) : ∀ (l : List S35) (f : K66 → Int) (k : K66), (∀ k, -C ≤ f k ∧ f k ≤ C) → -C - l.length ≤ decd f l k ∧ decd f l k ≤ C
  | [], f, k, h => by have := h k; simp [decd]; omega
  | x :: r, f, k, h => by
    have hd : ∀ (l : List S35) (f : K66 → Int) (A B : Int), (∀ k, A ≤ f k ∧ f k ≤ B) → ∀ k, A - l.length ≤ decd f l k ∧ decd f l k ≤ B := by
      intro l
      induction l with
      | nil => intro f A B h k; have := h k; simp [decd]; omega
      | cons y t ih =>
        intro f A B h k
        have h2 := ih (upd f (keyA y) (f (keyA y) - 1)) (A - 1) B (fun k => by
          by_cases e : k = keyA y
          · subst e; rw [upd_same]; have := h (keyA y); omega
          · rw [upd_other _ e]; have := h k; omega) k
        have h3 : decd f (y :: t) = decd (upd f (keyA y) (f (keyA y) - 1)) t := rfl
        rw [h3, List.length_cons]
        omega
    have := hd (x :: r) f (-C) C h k
    exact this
def isDue (now : Int) (x : S35) : Bool := decide (x.f6 ≤ now)
def notDue (now : Int) (x : S35) : Bool := !isDue now x
theorem Many_mono {w : World} {m n n' : Nat} {f : K66 → Int} (h : ManyAt w m n f) (hn : n ≤ n') : ManyAt w m n' f := by
  obtain ⟨D, ho, hD⟩ := h
  exact ⟨D, ho.mono hn, hD⟩
section
variable {w w' : World} {base b : Nat} {S S' : Nat → Prop} {g : Nat} {most : Int} {xs : List S35} {n : Nat} {f f' : K66 → Int} {v : Value} {m : Nat}
theorem R_keepT {S2 ok : Nat → Prop} {ys : List S35} {u : Value} (h : Kd.R k35 35 w base ok u ys) (hk : Kept w w' S2) (hs : ∀ k, ok k → k < w.heap.size → ¬ S2 k) : Kd.R k35 35 w' base ok u ys :=
  Kd.R_mono (Kd.R_kept (Kd.R_tight2 k35_E h) hk (fun k hk' => hs k hk'.2 (Kd.R_lt h k hk'.1.symm))) (fun k hk' => hk'.2)
theorem TabAt.back {xs' : List S35} {n' : Nat} (h : TabAt w' base S' g most xs n f v m) (o : TabAt w base S g most xs' n' f' v m) : TabAt w' base S g most xs n f v m :=
  ⟨h.blk, h.lo, h.mlo, Kd.R_reok k35_E h.row (fun k hk => o.row.1 k hk), h.many, o.sg, o.sm⟩
theorem filt_next (p : S35 → Bool) {i : Nat} (h : i < xs.length) : (xs.take (i + 1)).filter p = (xs.take i).filter p ++ (if p xs[i] then [xs[i]] else []) := by
  rw [List.take_succ_eq_append_getElem h, List.filter_append]
  congr 1
  cases e : p xs[i] <;> simp [e]
theorem filt_le (p : S35 → Bool) (i : Nat) : ((xs.take i).filter p).length ≤ i := by
  have := List.length_filter_le p (xs.take i)
  rw [List.length_take] at this
  omega
set_option maxHeartbeats 4000000 in
set_option maxRecDepth 100000 in
theorem Due_calls (h : TabAt w base S g most xs n f v m) (hn : n ≤ 100000) (hl : xs.length ≤ 1000) (hSl : ∀ k, S k → k < w.heap.size) (hg : ∀ x ∈ xs, (keyA x).Good) (hf : ∀ k, -1000 ≤ f k ∧ f k ≤ 1000) (now : Int) : Calls Try.prog 16 #[.pointer (some ⟨g, 0, none⟩), .int .i64 now] w fun e w' => ∃ uo v', e = .returned uo ∧ Kd.R k35 35 w' w.heap.size (fun _ => True) uo (xs.filter (isDue now)) ∧ TabAt w' base (fun k => (S k ∨ w.heap.size ≤ k) ∧ uo.ownBlock ≠ some k) g most (xs.filter (notDue now)) (n + xs.length) (decd f (xs.filter (isDue now))) v' m ∧ Below base w w' ∧ Kept w w' S := by
  obtain ⟨A, c, rfl, hlc, hC⟩ := Kd.R_reads h.row
  have H := Aside0.mk h
  have HSL := Aside0.mk hSl
  have HG := Aside0.mk hg
  have HF := Aside0.mk hf
  have T0 : Aside0 (TabAt w base S g most xs n (decd f ((xs.take 0).filter (isDue now))) (.slice A xs.length c) m) := ⟨h⟩
  have B0 := Aside0.mk (Below.refl base w)
  have K0 := Aside0.mk (Kept.refl w S)
  have c1 : w.cell? ⟨g, 1, none⟩ = some (.slice A xs.length c) := (blk_cell h.blk 1).trans rfl
  clear h hSl hC hg hf
  go_enter Try.func16, Try.ntmps16
  go_wp2_with fail
  clear c1
  go_loopw [5, 6, 8, 16] (fun v5 v6 v8 v16 wr => ∃ i : Nat, i ≤ xs.length ∧ v16 = .int .i64 i ∧ Aside0 (Kd.R k35 35 wr w.heap.size (fun k => w.heap.size ≤ k ∧ some k ≠ v6.ownBlock) v5 ((xs.take i).filter (isDue now))) ∧ Aside0 (Kd.R k35 35 wr w.heap.size (fun k => w.heap.size ≤ k ∧ some k ≠ v5.ownBlock) v6 ((xs.take i).filter (notDue now))) ∧ Aside0 (∃ n', n' ≤ n + i ∧ TabAt wr base S g most xs n' (decd f ((xs.take i).filter (isDue now))) (.slice A xs.length c) m) ∧ Aside0 (Below base w wr) ∧ Aside0 (Kept w wr S)) (fun _ _ _ v16 _ => xs.length - (intOf v16).toNat)
  case atStart => exact ⟨0, Nat.zero_le _, rfl, ⟨Kd.R_nil _ _ _ _ _⟩, ⟨Kd.R_nil _ _ _ _ _⟩, ⟨n, Nat.le_refl _, T0.out⟩, B0, K0⟩
  case round =>
    obtain ⟨i, hi, rfl, HO, HLf, HT, HB, HK⟩ := hrel
    clear T0 B0 K0
    obtain ⟨n', hn', ht⟩ := HT.out
    have HT := Aside0.mk ht
    have SZ : Aside0 (w.heap.size ≤ wr.heap.size) := ⟨HB.out.size⟩
    by_cases hlt : i < xs.length
    · have hd1 : decide ((i : Int) < (xs.length : Int)) = true := decide_eq_true (by omega)
      have hd2 : decide (i < xs.length) = true := decide_eq_true hlt
      obtain ⟨x, hx⟩ : ∃ x, xs[i] = x := ⟨_, rfl⟩
      have hgx : Aside0 (keyA x).Good := ⟨HG.out x (by rw [← hx]; exact List.getElem_mem hlt)⟩
      have ND := Aside0.mk (filt_next (isDue now) hlt)
      have NL := Aside0.mk (filt_next (notDue now) hlt)
      rw [hx] at ND NL
      have LO : Aside0 (((xs.take i).filter (isDue now)).length ≤ i) := ⟨filt_le _ i⟩
      have LL : Aside0 (((xs.take i).filter (notDue now)).length ≤ i) := ⟨filt_le _ i⟩
      have hC := (Kd.R_reads' HT.out.row).2.2
      obtain ⟨ad, rfl, hc0, hc1, hc2, hc3, hc4, hc5, hc6, hc7⟩ := at_T35 hC (i : Int) (by omega) (by omega)
      rw [rd35 hlt, hx] at hc0 hc1 hc2 hc3 hc4 hc5 hc6 hc7
      simp only [Int.toNat_natCast] at hc0 hc1 hc2 hc3 hc4 hc5 hc6 hc7
      obtain ⟨bd, hbd⟩ : ∃ b, decide (x.f6 ≤ now) = b := ⟨_, rfl⟩
      have hdx : isDue now x = bd := hbd
      have hnx : notDue now x = !bd := by unfold notDue; rw [hdx]
      rw [hdx] at ND
      rw [hnx] at NL
      have LI := Aside0.mk hlt
      have LXS := Aside0.mk hl
      have DB : Aside0 (-1000000 ≤ decd f ((xs.take i).filter (isDue now)) (keyA x) ∧ decd f ((xs.take i).filter (isDue now)) (keyA x) ≤ 1000000) := ⟨by
        have h1 := decd_le 1000 ((xs.take i).filter (isDue now)) f (keyA x) HF.out
        have h2 := LO.out
        omega⟩
      clear hx hC ht hdx hnx
      cases bd with
      | true =>
        have ND2 := Aside0.mk (show (xs.take (i + 1)).filter (isDue now) = (xs.take i).filter (isDue now) ++ [x] from by rw [ND.out]; simp)
        have NL2 := Aside0.mk (show (xs.take (i + 1)).filter (notDue now) = (xs.take i).filter (notDue now) from by rw [NL.out]; simp)
        go_wp2_with (((with_reducible refine gate_builtin (b := .append) (xs := #[.tmp 24, .tmp 26]) rfl ?_); at_builtin; rw [← size_alloc' wr (.cells #[.int .i64 x.f0, .int .i64 x.f1, .int .i64 x.f2, .string x.f3, .string x.f4, .string x.f5.f0, .int .i64 x.f5.f1, .int .i64 x.f6] 35)]; generalize hWB : wr.alloc (.cells #[.int .i64 x.f0, .int .i64 x.f1, .int .i64 x.f2, .string x.f3, .string x.f4, .string x.f5.f0, .int .i64 x.f5.f1, .int .i64 x.f6] 35) = WB; have TB : Aside0 (TabAt WB base S g most xs n' (decd f ((xs.take i).filter (isDue now))) (.slice (some ad) xs.length c) m) := ⟨by rw [← hWB]; exact HT.out.below (below_alloc (Below.refl _ _) _)⟩; have OB := Aside0.mk (show Kd.R k35 35 WB w.heap.size _ u5 _ from by rw [← hWB]; exact Kd.R_below HO.out (below_alloc (Below.refl _ _) _)); have LB := Aside0.mk (show Kd.R k35 35 WB w.heap.size _ u6 _ from by rw [← hWB]; exact Kd.R_below HLf.out (below_alloc (Below.refl _ _) _)); have BXB : Aside0 (WB.heap[wr.heap.size]? = some (.cells #[.int .i64 x.f0, .int .i64 x.f1, .int .i64 x.f2, .string x.f3, .string x.f4, .string x.f5.f0, .int .i64 x.f5.f1, .int .i64 x.f6] 35 (0, 0))) := ⟨by rw [← hWB]; exact blk_new wr _⟩; have SZB : Aside0 (w.heap.size ≤ WB.heap.size) := ⟨by rw [← hWB, size_alloc']; have := SZ.out; omega⟩; have SZ2 : Aside0 (wr.heap.size ≤ WB.heap.size) := ⟨by rw [← hWB, size_alloc']; omega⟩; have BWB : Aside0 (Below base w WB) := ⟨by rw [← hWB]; exact HB.out.alloc HT.out.size _⟩; have KWB : Aside0 (Kept w WB S) := ⟨by rw [← hWB]; exact HK.out.alloc _⟩; clear hWB; have FR : Aside0 (∀ k, WB.heap.size ≤ k → w.heap.size ≤ k ∧ some k ≠ u6.ownBlock) := ⟨fun k hk => ⟨Nat.le_trans SZB.out hk, fun e => by have := Kd.R_lt HLf.out k e.symm; have := SZ2.out; omega⟩⟩; refine Kd.R_append k35 (w0 := WB) w.heap.size rfl (.tmp 24) (.tmp 26) 46 35 (.agg #[.int .i64 0, .int .i64 0, .int .i64 0, .string ⟨#[]⟩, .string ⟨#[]⟩, .string ⟨#[]⟩, .int .i64 0, .int .i64 0]) 88 rfl Try.underlying46 info35 rfl (by decide) (by omega) u5 _ x (c35 x) (fun k => w.heap.size ≤ k ∧ some k ≠ u6.ownBlock) (fun _ => False) rfl rfl (k35_mkM _ _ _ _) (fun _ hk => hk.elim) FR.out OB.out (Below.refl _ _) SZB.out (by have h1 := LO.out; have h2 := LXS.out; have h3 := LI.out; show (_ + 1) * 88 ≤ _; omega) ?_; intro v1 w3 ho hb hg hat; have O3 := Aside0.mk (ho); have L3 := Aside0.mk (Kd.R_after LB.out hg hat); have NV : ∀ k, u5.ownBlock = some k → w.heap.size ≤ k := fun k e => (HO.out.1 k e).1; have T3 := Aside0.mk (TabAt.kept TB.out (Kept.of_grown hg (Kept.refl WB (fun k => w.heap.size ≤ k)) (fun k e => Or.inl (NV k e))) (fun k hk h2 => by have := HSL.out k hk; omega)); have BX3 := Aside0.mk (blk_grown BXB.out hg (fun e => by have := Kd.R_lt HO.out _ e.symm; omega)); have B3 := Aside0.mk (BWB.out.grown hg TB.out.size (fun k e => Nat.le_trans H.out.size (NV k e))); have K3 : Aside0 (Kept w w3 S) := ⟨Kept.of_grown hg KWB.out (fun k e => Or.inr (NV k e))⟩; have S3 : Aside0 (w.heap.size ≤ w3.heap.size) := ⟨Nat.le_trans SZB.out hg.size⟩; clear ho hb hg hat NV TB OB LB BXB BWB KWB FR SZB))
        generalize hus : (xs.take i).filter (isDue now) = ds at *
        have HS3 : TabAt w3 base (fun k => S k ∨ w3.heap.size ≤ k) g most xs n' (decd f ds) (.slice (some ad) xs.length c) m := T3.out.mono (fun k hk => Or.inl hk)
        refine (gone_calls HS3 (by have := LI.out; have := LXS.out; omega) (fun k hk => Or.inr hk) wr.heap.size x hgx.out DB.out ((blk_cell BX3.out 1).trans rfl) ((blk_cell BX3.out 2).trans rfl) ((blk_cell BX3.out 5).trans rfl) ((blk_cell BX3.out 6).trans rfl)).mono ?_
        rintro e w4 ⟨rfl, h4, hb4, hk4⟩
        have T4 := Aside0.mk (h4.back T3.out)
        have hne : ∀ k, w.heap.size ≤ k → k < w3.heap.size → ¬ (S k ∨ w3.heap.size ≤ k) := fun k h1 h2 h3 => by
          rcases h3 with h3 | h3
          · have := HSL.out k h3; omega
          · omega
        have O4 := Aside0.mk (R_keepT O3.out hk4 (fun k hk hlt => hne k hk.1 hlt))
        have L4 := Aside0.mk (R_keepT L3.out hk4 (fun k hk hlt => hne k hk.1 hlt))
        have B4 := Aside0.mk (B3.out.trans hb4)
        have K4 : Aside0 (Kept w w4 S) := ⟨K3.out.then_ hk4 (fun k hk => hk.imp (fun h => h) (fun h => Nat.le_trans S3.out h))⟩
        clear HS3 h4 hb4 hk4 hne T3 O3 L3 B3 K3 S3 BX3
        simp only
        go_wp2_with fail
        go_roundw
        case rel => exact ⟨i + 1, by have := LI.out; omega, by go_num, ⟨by rw [ND2.out]; exact O4.out⟩, ⟨by rw [NL2.out]; exact L4.out⟩, ⟨⟨n' + 1, by omega, by rw [ND2.out, decd_snoc]; exact T4.out⟩⟩, B4, K4⟩
        case measure => have := LI.out; simp [intOf]; omega
      | false =>
        have ND2 := Aside0.mk (show (xs.take (i + 1)).filter (isDue now) = (xs.take i).filter (isDue now) from by rw [ND.out]; simp)
        have NL2 := Aside0.mk (show (xs.take (i + 1)).filter (notDue now) = (xs.take i).filter (notDue now) ++ [x] from by rw [NL.out]; simp)
        go_wp2_with (((with_reducible refine gate_builtin (b := .append) (xs := #[.tmp 30, .tmp 32]) rfl ?_); at_builtin; rw [← size_alloc' wr (.cells #[.int .i64 x.f0, .int .i64 x.f1, .int .i64 x.f2, .string x.f3, .string x.f4, .string x.f5.f0, .int .i64 x.f5.f1, .int .i64 x.f6] 35)]; generalize hWB : wr.alloc (.cells #[.int .i64 x.f0, .int .i64 x.f1, .int .i64 x.f2, .string x.f3, .string x.f4, .string x.f5.f0, .int .i64 x.f5.f1, .int .i64 x.f6] 35) = WB; have TB : Aside0 (TabAt WB base S g most xs n' (decd f ((xs.take i).filter (isDue now))) (.slice (some ad) xs.length c) m) := ⟨by rw [← hWB]; exact HT.out.below (below_alloc (Below.refl _ _) _)⟩; have OB := Aside0.mk (show Kd.R k35 35 WB w.heap.size _ u5 _ from by rw [← hWB]; exact Kd.R_below HO.out (below_alloc (Below.refl _ _) _)); have LB := Aside0.mk (show Kd.R k35 35 WB w.heap.size _ u6 _ from by rw [← hWB]; exact Kd.R_below HLf.out (below_alloc (Below.refl _ _) _)); have BXB : Aside0 (WB.heap[wr.heap.size]? = some (.cells #[.int .i64 x.f0, .int .i64 x.f1, .int .i64 x.f2, .string x.f3, .string x.f4, .string x.f5.f0, .int .i64 x.f5.f1, .int .i64 x.f6] 35 (0, 0))) := ⟨by rw [← hWB]; exact blk_new wr _⟩; have SZB : Aside0 (w.heap.size ≤ WB.heap.size) := ⟨by rw [← hWB, size_alloc']; have := SZ.out; omega⟩; have SZ2 : Aside0 (wr.heap.size ≤ WB.heap.size) := ⟨by rw [← hWB, size_alloc']; omega⟩; have BWB : Aside0 (Below base w WB) := ⟨by rw [← hWB]; exact HB.out.alloc HT.out.size _⟩; have KWB : Aside0 (Kept w WB S) := ⟨by rw [← hWB]; exact HK.out.alloc _⟩; clear hWB; have FR : Aside0 (∀ k, WB.heap.size ≤ k → w.heap.size ≤ k ∧ some k ≠ u5.ownBlock) := ⟨fun k hk => ⟨Nat.le_trans SZB.out hk, fun e => by have := Kd.R_lt HO.out k e.symm; have := SZ2.out; omega⟩⟩; refine Kd.R_append k35 (w0 := WB) w.heap.size rfl (.tmp 30) (.tmp 32) 46 35 (.agg #[.int .i64 0, .int .i64 0, .int .i64 0, .string ⟨#[]⟩, .string ⟨#[]⟩, .string ⟨#[]⟩, .int .i64 0, .int .i64 0]) 88 rfl Try.underlying46 info35 rfl (by decide) (by omega) u6 _ x (c35 x) (fun k => w.heap.size ≤ k ∧ some k ≠ u5.ownBlock) (fun _ => False) rfl rfl (k35_mkM _ _ _ _) (fun _ hk => hk.elim) FR.out LB.out (Below.refl _ _) SZB.out (by have h1 := LL.out; have h2 := LXS.out; have h3 := LI.out; show (_ + 1) * 88 ≤ _; omega) ?_; intro v1 w3 ho hb hg hat; have O3 := Aside0.mk (Kd.R_after OB.out hg hat); have L3 := Aside0.mk (ho); have NV : ∀ k, u6.ownBlock = some k → w.heap.size ≤ k := fun k e => (HLf.out.1 k e).1; have T3 := Aside0.mk (TabAt.kept TB.out (Kept.of_grown hg (Kept.refl WB (fun k => w.heap.size ≤ k)) (fun k e => Or.inl (NV k e))) (fun k hk h2 => by have := HSL.out k hk; omega)); have BX3 := Aside0.mk (blk_grown BXB.out hg (fun e => by have := Kd.R_lt HLf.out _ e.symm; omega)); have B3 := Aside0.mk (BWB.out.grown hg TB.out.size (fun k e => Nat.le_trans H.out.size (NV k e))); have K3 : Aside0 (Kept w w3 S) := ⟨Kept.of_grown hg KWB.out (fun k e => Or.inr (NV k e))⟩; have S3 : Aside0 (w.heap.size ≤ w3.heap.size) := ⟨Nat.le_trans SZB.out hg.size⟩; clear ho hb hg hat NV TB OB LB BXB BWB KWB FR SZB))
        go_roundw
        case rel => exact ⟨i + 1, by have := LI.out; omega, by go_num, ⟨by rw [ND2.out]; exact O3.out⟩, ⟨by rw [NL2.out]; exact L3.out⟩, ⟨⟨n', by omega, by rw [ND2.out]; exact T3.out⟩⟩, B3, K3⟩
        case measure => have := LI.out; simp [intOf]; omega
    · obtain rfl : i = xs.length := by omega
      have hd1 : decide ((xs.length : Int) < (xs.length : Int)) = false := decide_eq_false (by omega)
      have hd2 : decide (xs.length < xs.length) = false := decide_eq_false (by omega)
      have q1 : wr.cell? ⟨g, 1, none⟩ = some (.slice A xs.length c) := (blk_cell HT.out.blk 1).trans rfl
      have qf : wr.frozen? ⟨g, 1, none⟩ = false := blk_frozen HT.out.blk 1
      have GW : Aside0 (g < w.heap.size) := ⟨blk_lt H.out.blk⟩
      have MW : Aside0 (m < w.heap.size) := ⟨Many_lt H.out.many⟩
      rw [List.take_length] at HO HLf HT
      clear ht
      obtain ⟨A6, c6, e6⟩ := Kd.R_slice HLf.out
      subst e6
      go_wp2_with fail
      go_ret
      have hs0 := H.out.size
      refine ⟨_, _, rfl, Kd.R_mono (Kd.R_set HO.out HT.out.blk ne61 1 _) (fun _ _ => trivial), ⟨blk_put HT.out.blk 1 _ rfl, HT.out.lo, HT.out.mlo, Kd.R_mono (Kd.R_set (Kd.R_lower HLf.out hs0) HT.out.blk ne61 1 _) (fun k hk => ⟨Or.inr hk.1, fun e => hk.2 e.symm⟩), ?_, ⟨Or.inl HT.out.sg, fun e => by have := (HO.out.1 g e).1; have := GW.out; omega⟩, ⟨Or.inl HT.out.sm, fun e => by have := (HO.out.1 m e).1; have := MW.out; omega⟩⟩, HB.out.setCell (p := ⟨g, 1, none⟩) HT.out.lo _, HK.out.setCell (p := ⟨g, 1, none⟩) (Or.inl HT.out.sg) _⟩
      exact Many_mono (Many_set HT.out.many HT.out.mg _) (by omega)
end
end Go.Proofs.Ytojjkgnkdcekpaa.M
