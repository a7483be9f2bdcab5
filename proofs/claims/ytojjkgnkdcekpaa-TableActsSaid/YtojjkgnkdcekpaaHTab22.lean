/- The reference's table: All, Due; SpoilAskeds. -/
import Derived.Test.YtojjkgnkdcekpaaHTab21
set_option linter.unusedVariables false
set_option linter.unusedSimpArgs false
namespace Go.Proofs.Ytojjkgnkdcekpaa.M
open Go Go.RowKit Go.ChangeMaps Go.Proofs.YtojjkgnkdcekpaaW.PrintWords Go.Proofs.YtojjkgnkdcekpaaW.PrintLast Go.Proofs.YtojjkgnkdcekpaaW.PrintMore Go.Proofs.Ytojjkgnkdcekpaa.P

section
variable {w w' : World} {base b : Nat} {S S' : Nat → Prop} {g : Nat} {most : Int} {xs : List S35} {v : Value}
set_option maxHeartbeats 4000000 in
set_option maxRecDepth 100000 in
theorem RAll_calls (h : RTab w base S g most xs v) (hl : xs.length ≤ 1000000) : Calls Try.prog 21 #[.pointer (some ⟨g, 0, none⟩)] w fun e w' => ∃ u, e = .returned u ∧ Kd.R k35 35 w' w.heap.size (fun _ => True) u xs ∧ Below w.heap.size w w' := by
  obtain ⟨A, c, rfl, hlc, hC⟩ := Kd.R_reads h.row
  have H := Aside0.mk h
  have HZ := Aside0.mk hC
  clear h hC
  have B0 := Aside0.mk (Below.refl w.heap.size w)
  go_enter Try.func21, Try.ntmps21
  go_wp2_with (first
    | ((with_reducible refine gate_dst (N := 3) rfl ?_); refine Kd.R_lit k35 w.heap.size 35 ?hg (N := 3) ?hd (xs := ([] : List S35)) (inner := []) (ok := fun _ => True) (okp := fun _ => True) ?hr ?hp (fun _ hk => hk) trivial (Below.refl _ _) (Nat.le_refl _) (by simp) ?_; (case hd => rfl); (case hg => rfl); (case hr => first | (go_simp; done) | (go_simp; rfl)); (case hp => exact (Reps.none _ _)); intro v1 w3 ho4 hb4 hg_ hnew_; clear hg_ hnew_; have HO := Aside0.mk ho4; have HB := Aside0.mk hb4; have t3 : w3.cell? ⟨g, 1, none⟩ = some (.slice A xs.length c) := (blk_cell (H.out.below hb4).blk 1).trans rfl; clear ho4 hb4)
    | ((with_reducible refine gate_builtin (b := .append) (xs := #[(.tmp 3), .tmp 7]) rfl ?_); at_builtin; refine Kd.R_append_rows k35 (w0 := w) w.heap.size rfl (.tmp 3) (.tmp 7) 46 35 (.agg #[.int .i64 0, .int .i64 0, .int .i64 0, .string ⟨#[]⟩, .string ⟨#[]⟩, .string ⟨#[]⟩, .int .i64 0, .int .i64 0]) 88 rfl Try.underlying46 info35 rfl (by decide) (by omega) v1 [] xs _ _ _ (fun _ => True) (fun _ => False) rfl rfl ?aO ?aR (fun _ _ h => h) (fun _ h => h.elim) ?aF ?aB ?aS ?aL ?_; (case aR => exact Kd.C_below HZ.out HB.out); (case aB => exact HB.out); (case aF => exact (fun _ _ => trivial)); (case aO => exact HO.out); (case aS => exact HB.out.size); (case aL => simp; omega); intro v2 w5 ho hb hg hat; rw [List.nil_append] at ho; clear HO HB; have HO := Aside0.mk ho; have HB := Aside0.mk hb; clear ho hb hg hat))
  go_ret
  exact ⟨_, rfl, HO.out, HB.out⟩
set_option maxHeartbeats 4000000 in
set_option maxRecDepth 100000 in
theorem RDue_calls (h : RTab w base S g most xs v) (hl : xs.length ≤ 1000) (hSl : ∀ k, S k → k < w.heap.size) (now : Int) : Calls Try.prog 18 #[.pointer (some ⟨g, 0, none⟩), .int .i64 now] w fun e w' => ∃ uo v', e = .returned uo ∧ Kd.R k35 35 w' w.heap.size (fun _ => True) uo (xs.filter (isDue now)) ∧ RTab w' base (fun k => (S k ∨ w.heap.size ≤ k) ∧ uo.ownBlock ≠ some k) g most (xs.filter (notDue now)) v' ∧ Below base w w' ∧ Kept w w' S := by
  obtain ⟨A, c, rfl, hlc, hC⟩ := Kd.R_reads h.row
  have H := Aside0.mk h
  have HSL := Aside0.mk hSl
  have B0 := Aside0.mk (Below.refl w.heap.size w)
  clear h hSl hC
  go_enter Try.func18, Try.ntmps18
  go_wp2_with fail
  go_loopw [5, 6, 7] (fun v5 v6 v7 wr => ∃ i : Nat, i ≤ xs.length ∧ v7 = .int .i64 i ∧ Aside0 (Kd.R k35 35 wr w.heap.size (fun k => w.heap.size ≤ k ∧ some k ≠ v6.ownBlock) v5 ((xs.take i).filter (isDue now))) ∧ Aside0 (Kd.R k35 35 wr w.heap.size (fun k => w.heap.size ≤ k ∧ some k ≠ v5.ownBlock) v6 ((xs.take i).filter (notDue now))) ∧ Aside0 (Below w.heap.size w wr)) (fun _ _ v7 _ => xs.length - (intOf v7).toNat)
  case atStart => exact ⟨0, Nat.zero_le _, rfl, ⟨Kd.R_nil _ _ _ _ _⟩, ⟨Kd.R_nil _ _ _ _ _⟩, B0⟩
  case round =>
    obtain ⟨i, hi, rfl, HO, HLf, HB⟩ := hrel
    clear B0
    have HT := Aside0.mk (H.out.below HB.out)
    have SZ : Aside0 (w.heap.size ≤ wr.heap.size) := ⟨HB.out.size⟩
    have c1 : wr.cell? ⟨g, 1, none⟩ = some (.slice A xs.length c) := (blk_cell HT.out.blk 1).trans rfl
    by_cases hlt : i < xs.length
    · have hd1 : decide ((i : Int) < (xs.length : Int)) = true := decide_eq_true (by omega)
      have hd2 : decide (i < xs.length) = true := decide_eq_true hlt
      obtain ⟨x, hx⟩ : ∃ x, xs[i] = x := ⟨_, rfl⟩
      have ND := Aside0.mk (filt_next (isDue now) hlt)
      have NL := Aside0.mk (filt_next (notDue now) hlt)
      rw [hx] at ND NL
      have LO : Aside0 (((xs.take i).filter (isDue now)).length ≤ i) := ⟨filt_le _ i⟩
      have LL : Aside0 (((xs.take i).filter (notDue now)).length ≤ i) := ⟨filt_le _ i⟩
      obtain ⟨ad, rfl, hc0, hc1, hc2, hc3, hc4, hc5, hc6, hc7⟩ := at_T35 (Kd.R_reads' HT.out.row).2.2 (i : Int) (by omega) (by omega)
      rw [rd35 hlt, hx] at hc0 hc1 hc2 hc3 hc4 hc5 hc6 hc7
      simp only [Int.toNat_natCast] at hc0 hc1 hc2 hc3 hc4 hc5 hc6 hc7
      obtain ⟨bd, hbd⟩ : ∃ b, decide (x.f6 ≤ now) = b := ⟨_, rfl⟩
      have hdx : isDue now x = bd := hbd
      have hnx : notDue now x = !bd := by unfold notDue; rw [hdx]
      rw [hdx] at ND
      rw [hnx] at NL
      have LI := Aside0.mk hlt
      have LXS := Aside0.mk hl
      clear hx hdx hnx
      cases bd with
      | true =>
        have ND2 := Aside0.mk (show (xs.take (i + 1)).filter (isDue now) = (xs.take i).filter (isDue now) ++ [x] from by rw [ND.out]; simp)
        have NL2 := Aside0.mk (show (xs.take (i + 1)).filter (notDue now) = (xs.take i).filter (notDue now) from by rw [NL.out]; simp)
        have FR : Aside0 (∀ k, wr.heap.size ≤ k → w.heap.size ≤ k ∧ some k ≠ u6.ownBlock) := ⟨fun k hk => ⟨Nat.le_trans SZ.out hk, fun e => by have := Kd.R_lt HLf.out k e.symm; omega⟩⟩
        go_wp2_with ((with_reducible refine gate_builtin (b := .append) (xs := #[.tmp 27, .tmp 35]) rfl ?_); at_builtin; refine Kd.R_append k35 (w0 := w) w.heap.size rfl (.tmp 27) (.tmp 35) 46 35 (.agg #[.int .i64 0, .int .i64 0, .int .i64 0, .string ⟨#[]⟩, .string ⟨#[]⟩, .string ⟨#[]⟩, .int .i64 0, .int .i64 0]) 88 rfl Try.underlying46 info35 rfl (by decide) (by omega) u5 _ x (c35 x) (fun k => w.heap.size ≤ k ∧ some k ≠ u6.ownBlock) (fun _ => False) rfl rfl (k35_mkM _ _ _ _) (fun _ hk => hk.elim) FR.out HO.out HB.out SZ.out (by have h1 := LO.out; have h2 := LXS.out; have h3 := LI.out; show (_ + 1) * 88 ≤ _; omega) ?_; intro v1 w3 ho hb hg hat; have M3 := Aside0.mk ho; have O3 := Aside0.mk (Kd.R_after HLf.out hg hat); have B3 := Aside0.mk hb; clear ho hb hg hat)
        go_roundw
        case rel => exact ⟨i + 1, by have := LI.out; omega, by go_num, ⟨by rw [ND2.out]; exact M3.out⟩, ⟨by rw [NL2.out]; exact O3.out⟩, B3⟩
        case measure => have := LI.out; simp [intOf]; omega
      | false =>
        have ND2 := Aside0.mk (show (xs.take (i + 1)).filter (isDue now) = (xs.take i).filter (isDue now) from by rw [ND.out]; simp)
        have NL2 := Aside0.mk (show (xs.take (i + 1)).filter (notDue now) = (xs.take i).filter (notDue now) ++ [x] from by rw [NL.out]; simp)
        have FR : Aside0 (∀ k, wr.heap.size ≤ k → w.heap.size ≤ k ∧ some k ≠ u5.ownBlock) := ⟨fun k hk => ⟨Nat.le_trans SZ.out hk, fun e => by have := Kd.R_lt HO.out k e.symm; omega⟩⟩
        go_wp2_with ((with_reducible refine gate_builtin (b := .append) (xs := #[.tmp 37, .tmp 45]) rfl ?_); at_builtin; refine Kd.R_append k35 (w0 := w) w.heap.size rfl (.tmp 37) (.tmp 45) 46 35 (.agg #[.int .i64 0, .int .i64 0, .int .i64 0, .string ⟨#[]⟩, .string ⟨#[]⟩, .string ⟨#[]⟩, .int .i64 0, .int .i64 0]) 88 rfl Try.underlying46 info35 rfl (by decide) (by omega) u6 _ x (c35 x) (fun k => w.heap.size ≤ k ∧ some k ≠ u5.ownBlock) (fun _ => False) rfl rfl (k35_mkM _ _ _ _) (fun _ hk => hk.elim) FR.out HLf.out HB.out SZ.out (by have h1 := LL.out; have h2 := LXS.out; have h3 := LI.out; show (_ + 1) * 88 ≤ _; omega) ?_; intro v1 w3 ho hb hg hat; have M3 := Aside0.mk ho; have O3 := Aside0.mk (Kd.R_after HO.out hg hat); have B3 := Aside0.mk hb; clear ho hb hg hat)
        go_roundw
        case rel => exact ⟨i + 1, by have := LI.out; omega, by go_num, ⟨by rw [ND2.out]; exact O3.out⟩, ⟨by rw [NL2.out]; exact M3.out⟩, B3⟩
        case measure => have := LI.out; simp [intOf]; omega
    · obtain rfl : i = xs.length := by omega
      have hd1 : decide ((xs.length : Int) < (xs.length : Int)) = false := decide_eq_false (by omega)
      have hd2 : decide (xs.length < xs.length) = false := decide_eq_false (by omega)
      have qf : wr.frozen? ⟨g, 1, none⟩ = false := blk_frozen HT.out.blk 1
      have GW : Aside0 (g < w.heap.size) := ⟨blk_lt H.out.blk⟩
      rw [List.take_length] at HO HLf
      obtain ⟨A6, c6, e6⟩ := Kd.R_slice HLf.out
      subst e6
      go_wp2_with fail
      go_ret
      have hs0 := H.out.size
      exact ⟨_, _, rfl, Kd.R_mono (Kd.R_set HO.out HT.out.blk ne63 1 _) (fun _ _ => trivial), ⟨blk_put HT.out.blk 1 _ rfl, HT.out.lo, Kd.R_mono (Kd.R_set (Kd.R_lower HLf.out hs0) HT.out.blk ne63 1 _) (fun k hk => ⟨Or.inr hk.1, fun e => hk.2 e.symm⟩), ⟨Or.inl HT.out.sg, fun e => by have := (HO.out.1 g e).1; have := GW.out; omega⟩⟩, (below_lower HB.out hs0).setCell (p := ⟨g, 1, none⟩) HT.out.lo _, (Kept.of_below HB.out S).setCell (p := ⟨g, 1, none⟩) (Or.inl HT.out.sg) _⟩
theorem someInt_set {w : World} {a : Addr} {k : IntKind} (h : ∃ m, w.cell? a = some (.int k m)) (b : Addr) (x : Int) : ∃ m, (w.setCell b (.int k x)).cell? a = some (.int k m) := by
  obtain ⟨m, hm⟩ := h
  by_cases e : b = a
  · subst e
    exact ⟨x, World.cell?_setCell_same _ _ _ hm⟩
  · exact ⟨m, (World.cell?_setCell_other _ _ _ _ e).trans hm⟩
set_option maxHeartbeats 4000000 in
set_option maxRecDepth 100000 in
theorem Spoil_calls {ok : Nat → Prop} {u : Value} (h : Kd.R k35 35 w base ok u xs) (hb : base ≤ w.heap.size) : Calls Try.prog 19 #[u] w fun e w' => e = .returned (.tuple #[]) ∧ Below base w w' ∧ Kept w w' (fun k => u.ownBlock = some k) := by
  obtain ⟨A, c, rfl, hlc, hC⟩ := Kd.R_reads h
  have hmx : xs.length ≤ 9223372036854775807 := hC.2.1
  have F0 : Aside0 (∀ ad, A = some ad → ∀ j : Nat, j < xs.length → (∃ z, w.cell? ⟨ad.block, ad.off + (j * 8 + 1), none⟩ = some (.int .i64 z)) ∧ w.frozen? ⟨ad.block, ad.off + (j * 8 + 1), none⟩ = false) := ⟨by
    rintro ad rfl j hj
    obtain ⟨q, cq, eq_, _⟩ := Kd.R_form h (by omega)
    have eA : some ad = some (⟨q, 0, none⟩ : Addr) := by injection eq_
    injection eA with eA
    subst eA
    obtain ⟨cs, hcl, hM, hcc, hff⟩ := Kd.R_elem h z35 (j : Int) (by omega) (by omega)
    obtain rfl := k35_openM hM
    rw [Int.toNat_natCast] at hcc hff
    refine ⟨⟨(xs.getD j z35).f1, ?_⟩, ?_⟩
    · rw [Nat.zero_add]; exact hcc 1 _ rfl
    · rw [Nat.zero_add]; exact hff 1⟩
  have AO : Aside0 (∀ ad, A = some ad → 0 < xs.length → (Value.slice A xs.length c).ownBlock = some ad.block ∧ base ≤ ad.block ∧ ad.spot = none ∧ ad.off = 0) := ⟨by
    rintro ad rfl hj
    obtain ⟨q, cq, eq_, hq, _⟩ := Kd.R_form h hj
    have eA : some ad = some (⟨q, 0, none⟩ : Addr) := by injection eq_
    injection eA with eA
    subst eA
    exact ⟨rfl, hq, rfl, rfl⟩⟩
  have AS : Aside0 (0 < xs.length → ∃ q, A = some (⟨q, 0, none⟩ : Addr)) := ⟨fun hj => by
    obtain ⟨q, cq, eq_, _⟩ := Kd.R_form h hj
    exact ⟨q, by injection eq_⟩⟩
  have B0 := Aside0.mk (Below.refl base w)
  have K0 := Aside0.mk (Kept.refl w (fun k => (Value.slice A xs.length c).ownBlock = some k))
  clear h hC
  go_enter Try.func19, Try.ntmps19
  go_wp2_with fail
  go_loopw [2] (fun v2 wr => ∃ i : Nat, i ≤ xs.length ∧ v2 = .int .i64 i ∧ Aside0 (∀ ad, A = some ad → ∀ j : Nat, j < xs.length → (∃ z, wr.cell? ⟨ad.block, ad.off + (j * 8 + 1), none⟩ = some (.int .i64 z)) ∧ wr.frozen? ⟨ad.block, ad.off + (j * 8 + 1), none⟩ = false) ∧ Aside0 (Below base w wr) ∧ Aside0 (Kept w wr (fun k => (Value.slice A xs.length c).ownBlock = some k))) (fun v2 _ => xs.length - (intOf v2).toNat)
  case atStart => exact ⟨0, Nat.zero_le _, rfl, F0, B0, K0⟩
  case round =>
    obtain ⟨i, hi, rfl, HR, HB, HK⟩ := hrel
    clear B0 K0 F0
    by_cases hlt : i < xs.length
    · have hd1 : decide ((i : Int) < (xs.length : Int)) = true := decide_eq_true (by omega)
      have hd2 : decide (i < xs.length) = true := decide_eq_true hlt
      have LI := Aside0.mk hlt
      obtain ⟨q, rfl⟩ := AS.out (by omega)
      have hb := (AO.out _ rfl (by omega)).2.1
      obtain ⟨⟨z, hz⟩, hf⟩ := HR.out _ rfl i hlt
      rw [Nat.zero_add] at hz hf
      have hF : Aside0 (∀ j : Nat, j < xs.length → (∃ z2, (wr.setCell ⟨q, i * 8 + 1, none⟩ (.int .i64 (bits .xor .i64 z 90))).cell? ⟨q, 0 + (j * 8 + 1), none⟩ = some (.int .i64 z2)) ∧ (wr.setCell ⟨q, i * 8 + 1, none⟩ (.int .i64 (bits .xor .i64 z 90))).frozen? ⟨q, 0 + (j * 8 + 1), none⟩ = false) := ⟨fun j hj => ⟨someInt_set (HR.out _ rfl j hj).1 _ _, (by rw [World.frozen?_setCell]; exact (HR.out _ rfl j hj).2)⟩⟩
      have HB2 : Aside0 (Below base w (wr.setCell ⟨q, i * 8 + 1, none⟩ (.int .i64 (bits .xor .i64 z 90)))) := ⟨HB.out.setCell (p := ⟨q, i * 8 + 1, none⟩) hb _⟩
      have HK2 : Aside0 (Kept w (wr.setCell ⟨q, i * 8 + 1, none⟩ (.int .i64 (bits .xor .i64 z 90))) (fun k => (Value.slice (some ⟨q, 0, none⟩) xs.length c).ownBlock = some k)) := ⟨HK.out.setCell (p := ⟨q, i * 8 + 1, none⟩) (Or.inl rfl) _⟩
      go_wp2_with fail
      go_roundw
      case rel => exact ⟨i + 1, by have := LI.out; omega, by go_num, ⟨fun ad e => by cases e; exact hF.out⟩, HB2, HK2⟩
      case measure => have := LI.out; simp [intOf]; omega
    · obtain rfl : i = xs.length := by omega
      have hd1 : decide ((xs.length : Int) < (xs.length : Int)) = false := decide_eq_false (by omega)
      have hd2 : decide (xs.length < xs.length) = false := decide_eq_false (by omega)
      go_wp2_with fail
      go_end0
      exact ⟨rfl, HB.out, HK.out⟩
end
end Go.Proofs.Ytojjkgnkdcekpaa.M
