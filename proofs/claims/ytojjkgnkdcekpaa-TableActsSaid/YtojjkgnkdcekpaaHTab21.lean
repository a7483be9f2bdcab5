/- The reference's table: Take. -/
import Derived.Test.YtojjkgnkdcekpaaHTab20
set_option linter.unusedVariables false
set_option linter.unusedSimpArgs false
namespace Go.Proofs.Ytojjkgnkdcekpaa.M
open Go Go.RowKit Go.ChangeMaps Go.Proofs.YtojjkgnkdcekpaaW.PrintWords Go.Proofs.YtojjkgnkdcekpaaW.PrintLast Go.Proofs.YtojjkgnkdcekpaaW.PrintMore Go.Proofs.Ytojjkgnkdcekpaa.P

def fitsQ (addr id : Int) (nm : ByteArray) (t cl : Int) (x : S35) : Bool := x.f2 == addr && (x.f1 == id && (cl == 1 && (x.f5.f1 == t && sameS (B x.f5.f0) (B nm))))
def put8 (w : World) (b : Nat) (x : S35) : World := (((((((w.setCell ⟨b, 0, none⟩ (.int .i64 x.f0)).setCell ⟨b, 1, none⟩ (.int .i64 x.f1)).setCell ⟨b, 2, none⟩ (.int .i64 x.f2)).setCell ⟨b, 3, none⟩ (.string x.f3)).setCell ⟨b, 4, none⟩ (.string x.f4)).setCell ⟨b, 5, none⟩ (.string x.f5.f0)).setCell ⟨b, 6, none⟩ (.int .i64 x.f5.f1)).setCell ⟨b, 7, none⟩ (.int .i64 x.f6)
theorem put8_kept (w : World) (b : Nat) (x : S35) : Kept w (put8 w b x) (fun k => k = b) := ((((((((Kept.refl w (fun k => k = b)).setCell (p := ⟨b, 0, none⟩) (Or.inl rfl) _).setCell (p := ⟨b, 1, none⟩) (Or.inl rfl) _).setCell (p := ⟨b, 2, none⟩) (Or.inl rfl) _).setCell (p := ⟨b, 3, none⟩) (Or.inl rfl) _).setCell (p := ⟨b, 4, none⟩) (Or.inl rfl) _).setCell (p := ⟨b, 5, none⟩) (Or.inl rfl) _).setCell (p := ⟨b, 6, none⟩) (Or.inl rfl) _).setCell (p := ⟨b, 7, none⟩) (Or.inl rfl) _
theorem put8_below {B : Nat} {w0 w : World} {b : Nat} (h : Below B w0 w) (hb : B ≤ b) (x : S35) : Below B w0 (put8 w b x) := (((((((h.setCell (p := ⟨b, 0, none⟩) hb _).setCell (p := ⟨b, 1, none⟩) hb _).setCell (p := ⟨b, 2, none⟩) hb _).setCell (p := ⟨b, 3, none⟩) hb _).setCell (p := ⟨b, 4, none⟩) hb _).setCell (p := ⟨b, 5, none⟩) hb _).setCell (p := ⟨b, 6, none⟩) hb _).setCell (p := ⟨b, 7, none⟩) hb _
theorem erase_split {α : Type} (l : List α) (i : Nat) : l.take i ++ l.drop (i + 1) = l.eraseIdx i := by
  induction l generalizing i with
  | nil => simp
  | cons a r ih => cases i <;> simp [ih]
section
variable {w w' : World} {base b : Nat} {S S' : Nat → Prop} {g : Nat} {most : Int} {xs : List S35} {v : Value}
def RTakePost (w : World) (base : Nat) (S : Nat → Prop) (g : Nat) (most : Int) (xs : List S35) (addr id : Int) (nm : ByteArray) (t cl : Int) (e : Ending) (w' : World) : Prop :=
  ((∀ i (hi : i < xs.length), fitsQ addr id nm t cl xs[i] = false) ∧ e = .returned (.tuple #[v35 z35, .int .i64 1902]) ∧ Below w.heap.size w w') ∨
  (∃ (j : Nat) (hj : j < xs.length), fitsQ addr id nm t cl xs[j] = true ∧ (∀ i (hi : i < j), fitsQ addr id nm t cl (xs[i]'(Nat.lt_trans hi hj)) = false) ∧ e = .returned (.tuple #[v35 xs[j], .int .i64 0]) ∧ (∃ v', RTab w' base S g most (xs.eraseIdx j) v') ∧ Below base w w' ∧ Kept w w' S)
set_option maxHeartbeats 8000000 in
set_option maxRecDepth 100000 in
theorem RTake_calls (h : RTab w base S g most xs v) (hl : xs.length ≤ 1000) (hS : ∀ k, w.heap.size ≤ k → S k) (addr id : Int) (nm : ByteArray) (t cl : Int) : Calls Try.prog 15 #[.pointer (some ⟨g, 0, none⟩), .int .i64 addr, .int .i64 id, .agg #[.string nm, .int .i64 t, .int .i64 cl]] w (RTakePost w base S g most xs addr id nm t cl) := by
  obtain ⟨A, c, rfl, hlc, hC⟩ := Kd.R_reads h.row
  have H := Aside0.mk h
  have HS := Aside0.mk hS
  have B0 := Aside0.mk (Below.refl w.heap.size w)
  clear h hS hC
  go_enter Try.func15, Try.ntmps15
  go_wp2_with fail
  generalize hW : (w.alloc _).alloc _ = W
  have QB : Aside0 (W.heap[w.heap.size]? = some (.cells #[.string nm, .int .i64 t, .int .i64 cl] 37 (0, 0))) := ⟨by rw [← hW]; exact blk_alloc (blk_new w _) _⟩
  have RB : Aside0 (W.heap[w.heap.size + 1]? = some (.cells #[.int .i64 0, .int .i64 0, .int .i64 0, .string ⟨#[]⟩, .string ⟨#[]⟩, .string ⟨#[]⟩, .int .i64 0, .int .i64 0] 35)) := ⟨by rw [← hW]; have := blk_new (w.alloc (.cells #[.string nm, .int .i64 t, .int .i64 cl] 37)) (.cells #[.int .i64 0, .int .i64 0, .int .i64 0, .string ⟨#[]⟩, .string ⟨#[]⟩, .string ⟨#[]⟩, .int .i64 0, .int .i64 0] 35); rwa [size_alloc'] at this⟩
  have BW : Aside0 (Below w.heap.size w W) := ⟨by rw [← hW]; exact below_alloc (below_alloc (Below.refl _ _) _) _⟩
  have SW : Aside0 (W.heap.size = w.heap.size + 2) := ⟨by rw [← hW, size_alloc', size_alloc']⟩
  have N0 : Aside0 (∀ i (hi : i < xs.length), i < 0 → fitsQ addr id nm t cl xs[i] = false) := ⟨fun i _ h => absurd h (Nat.not_lt_zero _)⟩
  have TW := Aside0.mk (H.out.below BW.out)
  clear hW
  go_loopw [10] (fun v10 wr => ∃ i : Nat, i ≤ xs.length ∧ v10 = .int .i64 i ∧ Aside0 (∀ j (hj : j < xs.length), j < i → fitsQ addr id nm t cl xs[j] = false) ∧ Aside0 (Below W.heap.size W wr)) (fun v10 _ => xs.length - (intOf v10).toNat)
  case atStart => exact ⟨0, Nat.zero_le _, rfl, N0, ⟨Below.refl _ _⟩⟩
  case round =>
    obtain ⟨i, hi, rfl, HN, HT⟩ := hrel
    clear N0
    have T1 := Aside0.mk (TW.out.below HT.out)
    have Q1 := Aside0.mk (blk_below QB.out HT.out)
    have R1 := Aside0.mk (blk_below RB.out HT.out)
    have SR : Aside0 (w.heap.size + 2 ≤ wr.heap.size) := ⟨by have := HT.out.size; have := SW.out; omega⟩
    have t1 : wr.cell? ⟨g, 1, none⟩ = some (.slice A xs.length c) := (blk_cell T1.out.blk 1).trans rfl
    by_cases hlt : i < xs.length
    · have hd1 : decide ((i : Int) < (xs.length : Int)) = true := decide_eq_true (by omega)
      have hd2 : decide (i < xs.length) = true := decide_eq_true hlt
      obtain ⟨x, hx⟩ : ∃ x, xs[i] = x := ⟨_, rfl⟩
      have HX := Aside0.mk hx
      have LI := Aside0.mk hlt
      obtain ⟨ad, rfl, hc0, hc1, hc2, hc3, hc4, hc5, hc6, hc7⟩ := at_T35 (Kd.R_reads' T1.out.row).2.2 (i : Int) (by omega) (by omega)
      rw [rd35 hlt, hx] at hc0 hc1 hc2 hc3 hc4 hc5 hc6 hc7
      simp only [Int.toNat_natCast] at hc0 hc1 hc2 hc3 hc4 hc5 hc6 hc7
      clear hx
      go_upto_region 5 with fail
      generalize hW : wr.alloc _ = V
      obtain ⟨xb, hxb⟩ : ∃ xb, wr.heap.size = xb := ⟨_, rfl⟩
      have XB : Aside0 (V.heap[xb]? = some (.cells #[.int .i64 x.f0, .int .i64 x.f1, .int .i64 x.f2, .string x.f3, .string x.f4, .string x.f5.f0, .int .i64 x.f5.f1, .int .i64 x.f6] 35 (0, 0))) := ⟨by rw [← hW, ← hxb]; exact blk_new wr _⟩
      have BV : Aside0 (Below wr.heap.size wr V) := ⟨by rw [← hW]; exact below_alloc (Below.refl _ _) _⟩
      have SX := Aside0.mk hxb
      rw [hxb]
      clear hW hxb t1 hc0 hc1 hc2 hc3 hc4 hc5 hc6 hc7
      have x1 : V.cell? ⟨xb, 1, none⟩ = some (.int .i64 x.f1) := (blk_cell XB.out 1).trans rfl
      have x2 : V.cell? ⟨xb, 2, none⟩ = some (.int .i64 x.f2) := (blk_cell XB.out 2).trans rfl
      have x5 : V.cell? ⟨xb, 5, none⟩ = some (.string x.f5.f0) := (blk_cell XB.out 5).trans rfl
      have x6 : V.cell? ⟨xb, 6, none⟩ = some (.int .i64 x.f5.f1) := (blk_cell XB.out 6).trans rfl
      have q0 : V.cell? ⟨w.heap.size, 0, none⟩ = some (.string nm) := (blk_cell (blk_below Q1.out BV.out) 0).trans rfl
      have q1 : V.cell? ⟨w.heap.size, 1, none⟩ = some (.int .i64 t) := (blk_cell (blk_below Q1.out BV.out) 1).trans rfl
      have q2 : V.cell? ⟨w.heap.size, 2, none⟩ = some (.int .i64 cl) := (blk_cell (blk_below Q1.out BV.out) 2).trans rfl
      have HV : Aside0 (Below W.heap.size W V) := ⟨below_nx HT.out BV.out⟩
      obtain ⟨ss, hss⟩ : ∃ ss, sameS (B x.f5.f0) (B nm) = ss := ⟨_, rfl⟩
      have HM := Aside0.mk (refSame_calls x.f5.f0 nm)
      rw [hss] at HM
      have HNext : Aside0 (fitsQ addr id nm t cl x = false → ∀ j (hj : j < xs.length), j < i + 1 → fitsQ addr id nm t cl xs[j] = false) := ⟨fun h j hj hji => by
        by_cases e : j = i
        · subst e; rw [HX.out]; exact h
        · exact HN.out j hj (by omega)⟩
      by_cases he2 : x.f2 = addr
      case neg =>
        have be2 : (x.f2 == addr) = false := beq_eq_false_iff_ne.2 he2
        have de2 : decide (x.f2 = addr) = false := decide_eq_false he2
        go_wp2_with fail
        go_roundw
        case rel => exact ⟨i + 1, by have := LI.out; omega, by go_num, ⟨HNext.out (by unfold fitsQ; simp only [be2, Bool.false_and, Bool.true_and, Bool.and_false])⟩, HV⟩
        case measure => have := LI.out; simp [intOf]; omega
      subst he2
      have be2 : (x.f2 == x.f2) = true := beq_self_eq_true _
      by_cases he1 : x.f1 = id
      case neg =>
        have be1 : (x.f1 == id) = false := beq_eq_false_iff_ne.2 he1
        have de1 : decide (x.f1 = id) = false := decide_eq_false he1
        go_wp2_with fail
        go_roundw
        case rel => exact ⟨i + 1, by have := LI.out; omega, by go_num, ⟨HNext.out (by unfold fitsQ; simp only [be2, be1, Bool.false_and, Bool.true_and, Bool.and_false])⟩, HV⟩
        case measure => have := LI.out; simp [intOf]; omega
      subst he1
      have be1 : (x.f1 == x.f1) = true := beq_self_eq_true _
      by_cases hec : cl = 1
      case neg =>
        have bec : (cl == (1 : Int)) = false := beq_eq_false_iff_ne.2 hec
        have dec : decide (cl = (1 : Int)) = false := decide_eq_false hec
        go_wp2_with fail
        go_roundw
        case rel => exact ⟨i + 1, by have := LI.out; omega, by go_num, ⟨HNext.out (by unfold fitsQ; simp only [be2, be1, bec, Bool.false_and, Bool.true_and, Bool.and_false])⟩, HV⟩
        case measure => have := LI.out; simp [intOf]; omega
      subst hec
      have bec : ((1 : Int) == 1) = true := rfl
      by_cases het : x.f5.f1 = t
      case neg =>
        have bet : (x.f5.f1 == t) = false := beq_eq_false_iff_ne.2 het
        have det : decide (x.f5.f1 = t) = false := decide_eq_false het
        go_wp2_with fail
        go_roundw
        case rel => exact ⟨i + 1, by have := LI.out; omega, by go_num, ⟨HNext.out (by unfold fitsQ; simp only [be2, be1, bec, bet, Bool.false_and, Bool.true_and, Bool.and_false])⟩, HV⟩
        case measure => have := LI.out; simp [intOf]; omega
      subst het
      have bet : (x.f5.f1 == x.f5.f1) = true := beq_self_eq_true _
      cases ss with
      | false =>
        go_wp2_with fail
        refine (HM.out _).mono ?_
        rintro e w5 ⟨rfl, hb⟩
        have H5 := Aside0.mk (below_nx HV.out hb)
        clear hb
        simp only
        go_wp2_with fail
        go_roundw
        case rel => exact ⟨i + 1, by have := LI.out; omega, by go_num, ⟨HNext.out (by unfold fitsQ; simp only [be2, be1, bec, bet, hss, Bool.false_and, Bool.true_and, Bool.and_false])⟩, H5⟩
        case measure => have := LI.out; simp [intOf]; omega
      | true =>
        have FIT : Aside0 (fitsQ x.f2 x.f1 nm x.f5.f1 1 x = true) := ⟨by unfold fitsQ; rw [be2, be1, bec, bet, hss]; rfl⟩
        clear be2 be1 bec bet hss
        go_upto_region 6 with ((go_at_call 32; refine (HM.out _).mono ?_; rintro e w5 ⟨rfl, hb⟩; have H5 := Aside0.mk (below_nx HV.out hb); have X5 := Aside0.mk (blk_below XB.out hb); clear hb; simp only))
        have T5 := Aside0.mk (TW.out.below H5.out)
        have R5 := Aside0.mk (blk_below RB.out H5.out)
        have B5 := Aside0.mk (below_nx BW.out H5.out)
        have S5 : Aside0 (w.heap.size + 2 ≤ w5.heap.size) := ⟨by have := H5.out.size; have := SW.out; omega⟩
        clear x1 x2 x5 x6 q0 q1 q2 HV HM HNext T1 Q1 R1 HT QB RB BW TW XB BV
        obtain ⟨q, cq, eq_, _⟩ := Kd.R_form T5.out.row (by omega)
        have eA : some ad = some (⟨q, 0, none⟩ : Addr) := by injection eq_
        injection eA with eA
        subst eA
        have RD := Aside0.mk (Kd.R_reads' T5.out.row).2.2
        clear eq_
        have t1 : w5.cell? ⟨g, 1, none⟩ = some (.slice (some ⟨q, 0, none⟩) xs.length c) := (blk_cell T5.out.blk 1).trans rfl
        have ch : ∀ W : World, (Instr.slice 46 (.slice (some ⟨q, 0, none⟩) xs.length c) none (some (.int .i64 (i : Int))) none).run Try.prog W = .ok (.slice (some ⟨q, 0, none⟩) i c) W := fun W => cut_h W q xs.length c i (by omega)
        obtain ⟨Z3, hZ3⟩ : ∃ Z, (if c = i + 1 then some ⟨q, 0, none⟩ else (some (⟨q, 0, none⟩ : Addr)).map (·.add ((i + 1) * 8))) = Z := ⟨_, rfl⟩
        have cl3 : ∀ W : World, (Instr.slice 46 (.slice (some ⟨q, 0, none⟩) xs.length c) (some (.int .i64 ((i : Int) + 1))) none none).run Try.prog W = .ok (.slice Z3 (xs.length - (i + 1)) (c - (i + 1))) W := fun W => by
          have := cut_l' W q xs.length c (i + 1) (by omega)
          rw [hZ3] at this
          rwa [show ((i + 1 : Nat) : Int) = (i : Int) + 1 from by omega] at this
        have RT : Aside0 (∀ W, Below w5.heap.size w5 W → Kd.C k35 W (some ⟨q, 0, none⟩) i (xs.take i)) := ⟨fun W hW => by
          have := Kd.C_take (m := i) (Kd.C_below RD.out hW) (by have := LI.out; omega)
          rwa [show (xs.take i).length = i by rw [List.length_take]; have := LI.out; omega] at this⟩
        have RDr : Aside0 (∀ W, Below w5.heap.size w5 W → Kd.C k35 W Z3 (xs.length - (i + 1)) (xs.drop (i + 1))) := ⟨fun W hW => by
          have := Kd.C_drop (m := i + 1) (c := c) (Kd.C_below RD.out hW) (by have := LI.out; omega) hlc
          rw [show k35.sz = 8 from rfl, hZ3] at this
          rwa [show (xs.drop (i + 1)).length = xs.length - (i + 1) by rw [List.length_drop]] at this⟩
        clear hZ3
        go_upto_region 8 with (first
            | ((with_reducible refine gate_dst (N := 60) rfl ?_); refine Kd.R_lit k35 w5.heap.size 35 ?hg (N := 60) ?hd (xs := ([] : List S35)) (inner := []) (ok := fun _ => True) (okp := fun _ => True) ?hr ?hp (fun _ hk => hk) trivial (Below.refl _ _) (Nat.le_refl _) (by simp) ?_; (case hd => rfl); (case hg => rfl); (case hr => first | (go_simp; done) | (go_simp; rfl)); (case hp => exact (Reps.none _ _)); intro v1 w6 ho4 hb4 hg_ hnew_; clear hg_ hnew_; have O6 := Aside0.mk ho4; have B6 := Aside0.mk hb4; have t6 : w6.cell? ⟨g, 1, none⟩ = some (.slice (some ⟨q, 0, none⟩) xs.length c) := (blk_cell (T5.out.below hb4).blk 1).trans rfl; clear ho4 hb4)
            | ((with_reducible refine gate_builtin (b := .append) (xs := #[(.tmp 60), .tmp 66]) rfl ?_); at_builtin; refine Kd.R_append_rows k35 (w0 := w5) w5.heap.size rfl (.tmp 60) (.tmp 66) 46 35 (.agg #[.int .i64 0, .int .i64 0, .int .i64 0, .string ⟨#[]⟩, .string ⟨#[]⟩, .string ⟨#[]⟩, .int .i64 0, .int .i64 0]) 88 rfl Try.underlying46 info35 rfl (by decide) (by omega) v1 [] (xs.take i) _ _ _ (fun _ => True) (fun _ => False) rfl rfl ?aO ?aR (fun _ _ h => h) (fun _ h => h.elim) ?aF ?aB ?aS ?aL ?_; (case aR => exact RT.out _ B6.out); (case aB => exact B6.out); (case aF => exact (fun _ _ => trivial)); (case aO => exact O6.out); (case aS => exact B6.out.size); (case aL => have := LI.out; simp; omega); intro v2 w7 ho hb hg hat; rw [List.nil_append] at ho; have O7 := Aside0.mk ho; have B7 := Aside0.mk hb; have t7 : w7.cell? ⟨g, 1, none⟩ = some (.slice (some ⟨q, 0, none⟩) xs.length c) := (blk_cell (T5.out.below hb).blk 1).trans rfl; clear ho hb hg hat)
            | ((with_reducible refine gate_builtin (b := .append) (xs := #[(.tmp 68), .tmp 75]) rfl ?_); at_builtin; refine Kd.R_append_rows k35 (w0 := w5) w5.heap.size rfl (.tmp 68) (.tmp 75) 46 35 (.agg #[.int .i64 0, .int .i64 0, .int .i64 0, .string ⟨#[]⟩, .string ⟨#[]⟩, .string ⟨#[]⟩, .int .i64 0, .int .i64 0]) 88 rfl Try.underlying46 info35 rfl (by decide) (by omega) v2 (xs.take i) (xs.drop (i + 1)) _ _ _ (fun _ => True) (fun _ => False) rfl rfl ?bO ?bR (fun _ _ h => h) (fun _ h => h.elim) ?bF ?bB ?bS ?bL ?_; (case bR => exact RDr.out _ B7.out); (case bB => exact B7.out); (case bF => exact (fun _ _ => trivial)); (case bO => exact O7.out); (case bS => exact B7.out.size); (case bL => have h1 := LI.out; have h2 : (xs.take i).length = i := (by rw [List.length_take]; omega); rw [h2]; omega); intro v3 w8 ho hb hg hat; rw [erase_split] at ho; obtain ⟨A8, c8, e8⟩ := Kd.R_slice ho; subst e8; have O8 := Aside0.mk ho; have B8 := Aside0.mk hb; have t8 : w8.cell? ⟨g, 1, none⟩ = some (.slice (some ⟨q, 0, none⟩) xs.length c) := (blk_cell (T5.out.below hb).blk 1).trans rfl; clear ho hb hg hat))
        have T8 := Aside0.mk (T5.out.below B8.out)
        have f8 : w8.frozen? ⟨g, 1, none⟩ = false := blk_frozen T8.out.blk 1
        clear t1 t6 t7 ch cl3 RT RDr O6 O7 B6 B7
        go_upto_region 9 with fail
        generalize hW : w8.setCell _ _ = w9
        have GX : Aside0 (xb ≠ g) := ⟨fun e => by have h1 := blk_lt H.out.blk; have h2 := SR.out; have h3 := SX.out; omega⟩
        have X8 := Aside0.mk (blk_below X5.out B8.out)
        have R8 := Aside0.mk (blk_below R5.out B8.out)
        have K8 : Aside0 (Kept w8 w9 (fun k => k = g)) := ⟨by rw [← hW]; exact (Kept.refl w8 (fun k => k = g)).setCell (p := ⟨g, 1, none⟩) (Or.inl rfl) _⟩
        have rr : Kd.R k35 35 w8 w5.heap.size S (.slice A8 (xs.eraseIdx i).length c8) (xs.eraseIdx i) := Kd.R_mono (Kd.R_bound O8.out) (fun k hk => HS.out k (by have h1 := S5.out; have h2 := hk.2.1; omega))
        have T9 : Aside0 (RTab w9 base S g most (xs.eraseIdx i) (.slice A8 (xs.eraseIdx i).length c8)) := ⟨by
          rw [← hW]
          exact ⟨blk_put T8.out.blk 1 _ rfl, T8.out.lo, Kd.R_set (Kd.R_lower rr T5.out.size) T8.out.blk ne63 1 _, T8.out.sg⟩⟩
        have V9 : Aside0 (∀ k, (Value.slice A8 (xs.eraseIdx i).length c8).ownBlock = some k → w.heap.size + 2 ≤ k) := ⟨fun k hk => by have h1 := Kd.R_base O8.out k hk; have h2 := S5.out; omega⟩
        have B9 : Aside0 (Below base w w9) := ⟨by rw [← hW]; exact ((below_lower B5.out H.out.size).trans (below_lower B8.out T5.out.size)).setCell (p := ⟨g, 1, none⟩) H.out.lo _⟩
        have K9 : Aside0 (Kept w w9 S) := ⟨by rw [← hW]; exact ((Kept.of_below (below_nx B5.out B8.out) S)).setCell (p := ⟨g, 1, none⟩) (Or.inl H.out.sg) _⟩
        have GL : Aside0 (g < w.heap.size) := ⟨blk_lt H.out.blk⟩
        have X9 := blk_kept X8.out K8.out GX.out
        have R9 := Aside0.mk (blk_kept R8.out K8.out (fun e => by have h1 := GL.out; omega))
        have y0 : w9.cell? ⟨xb, 0, none⟩ = some (.int .i64 x.f0) := (blk_cell X9 0).trans rfl
        have y1 : w9.cell? ⟨xb, 1, none⟩ = some (.int .i64 x.f1) := (blk_cell X9 1).trans rfl
        have y2 : w9.cell? ⟨xb, 2, none⟩ = some (.int .i64 x.f2) := (blk_cell X9 2).trans rfl
        have y3 : w9.cell? ⟨xb, 3, none⟩ = some (.string x.f3) := (blk_cell X9 3).trans rfl
        have y4 : w9.cell? ⟨xb, 4, none⟩ = some (.string x.f4) := (blk_cell X9 4).trans rfl
        have y5 : w9.cell? ⟨xb, 5, none⟩ = some (.string x.f5.f0) := (blk_cell X9 5).trans rfl
        have y6 : w9.cell? ⟨xb, 6, none⟩ = some (.int .i64 x.f5.f1) := (blk_cell X9 6).trans rfl
        have y7 : w9.cell? ⟨xb, 7, none⟩ = some (.int .i64 x.f6) := (blk_cell X9 7).trans rfl
        have r0 : w9.cell? ⟨w.heap.size + 1, 0, none⟩ = some (.int .i64 0) := (blk_cell R9.out 0).trans rfl
        have r1 : w9.cell? ⟨w.heap.size + 1, 1, none⟩ = some (.int .i64 0) := (blk_cell R9.out 1).trans rfl
        have r2 : w9.cell? ⟨w.heap.size + 1, 2, none⟩ = some (.int .i64 0) := (blk_cell R9.out 2).trans rfl
        have r3 : w9.cell? ⟨w.heap.size + 1, 3, none⟩ = some (.string ⟨#[]⟩) := (blk_cell R9.out 3).trans rfl
        have r4 : w9.cell? ⟨w.heap.size + 1, 4, none⟩ = some (.string ⟨#[]⟩) := (blk_cell R9.out 4).trans rfl
        have r5 : w9.cell? ⟨w.heap.size + 1, 5, none⟩ = some (.string ⟨#[]⟩) := (blk_cell R9.out 5).trans rfl
        have r6 : w9.cell? ⟨w.heap.size + 1, 6, none⟩ = some (.int .i64 0) := (blk_cell R9.out 6).trans rfl
        have r7 : w9.cell? ⟨w.heap.size + 1, 7, none⟩ = some (.int .i64 0) := (blk_cell R9.out 7).trans rfl
        have yf : ∀ k, w9.frozen? ⟨w.heap.size + 1, k, none⟩ = false := fun k => blk_frozen R9.out k
        clear hW rr t8 f8 X9 X8 R8 T8 O8 B8 K8 X5 R5 T5 RD B5 H5
        go_wp2_with fail
        exact bodyPost_ret (v := .tuple #[v35 x, .int .i64 0]) (by simp [results, Try.results15, go_sem, v35, r0, r1, r2, r3, r4, r5, r6, r7]) rfl (Or.inr ⟨i, LI.out, by rw [HX.out]; exact FIT.out, fun j hj => HN.out j (Nat.lt_trans hj LI.out) hj, by rw [HX.out], ⟨_, T9.out.kept (put8_kept w9 (w.heap.size + 1) x) (fun e => by have h1 := GL.out; omega) (fun k hk e => by have h1 := V9.out k hk; omega)⟩, put8_below B9.out (Nat.le_trans H.out.size (Nat.le_succ _)) x, (K9.out.then_ (put8_kept w9 (w.heap.size + 1) x) (fun k hk => Or.inr (by rw [hk]; exact Nat.le_succ _)))⟩)
    · obtain rfl : i = xs.length := by omega
      have hd1 : decide ((xs.length : Int) < (xs.length : Int)) = false := decide_eq_false (by omega)
      have hd2 : decide (xs.length < xs.length) = false := decide_eq_false (by omega)
      have R2 := blk_below RB.out HT.out
      have r0 : wr.cell? ⟨w.heap.size + 1, 0, none⟩ = some (.int .i64 0) := (blk_cell R2 0).trans rfl
      have r1 : wr.cell? ⟨w.heap.size + 1, 1, none⟩ = some (.int .i64 0) := (blk_cell R2 1).trans rfl
      have r2 : wr.cell? ⟨w.heap.size + 1, 2, none⟩ = some (.int .i64 0) := (blk_cell R2 2).trans rfl
      have r3 : wr.cell? ⟨w.heap.size + 1, 3, none⟩ = some (.string ⟨#[]⟩) := (blk_cell R2 3).trans rfl
      have r4 : wr.cell? ⟨w.heap.size + 1, 4, none⟩ = some (.string ⟨#[]⟩) := (blk_cell R2 4).trans rfl
      have r5 : wr.cell? ⟨w.heap.size + 1, 5, none⟩ = some (.string ⟨#[]⟩) := (blk_cell R2 5).trans rfl
      have r6 : wr.cell? ⟨w.heap.size + 1, 6, none⟩ = some (.int .i64 0) := (blk_cell R2 6).trans rfl
      have r7 : wr.cell? ⟨w.heap.size + 1, 7, none⟩ = some (.int .i64 0) := (blk_cell R2 7).trans rfl
      have yf : ∀ k, wr.frozen? ⟨w.heap.size + 1, k, none⟩ = false := fun k => blk_frozen R2 k
      clear R1 R2 Q1 T1
      go_wp2_with fail
      exact bodyPost_ret (v := .tuple #[v35 z35, .int .i64 1902]) (by simp [results, Try.results15, go_sem, v35, z35, z33, r0, r1, r2, r3, r4, r5, r6, r7]) rfl (Or.inl ⟨fun j hj => HN.out j hj hj, rfl, put8_below (below_nx BW.out HT.out) (Nat.le_succ _) z35⟩)
end
end Go.Proofs.Ytojjkgnkdcekpaa.M
