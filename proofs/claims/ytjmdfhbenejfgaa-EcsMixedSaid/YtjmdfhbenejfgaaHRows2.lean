/- NewIds; what was lent is as it was; what is spoilt. -/
import Derived.Test.YtjmdfhbenejfgaaHRows
set_option linter.unusedVariables false
set_option linter.unusedSimpArgs false
namespace Go.Proofs.Ytjmdfhbenejfgaa.M
open Go Go.RowKit Go.Proofs.YtjmdfhbenejfgaaW.PrintWords Go.Proofs.YtjmdfhbenejfgaaW.PrintLast Go.Proofs.YtjmdfhbenejfgaaW.PrintMore Go.Proofs.Ytjmdfhbenejfgaa.P

set_option maxRecDepth 100000 in
theorem NewR_bad (w : World) (A : Option Addr) (n c : Nat) (hn : 1024 < n) : Calls Try.prog 19 #[.slice A n c] w fun e w' => e = .returned (.tuple #[.pointer none, .int .i64 1800]) ∧ w' = w := by
  have h1 : decide ((n : Int) > 1024) = true := decide_eq_true (by omega)
  have h2 : decide (1024 < n) = true := decide_eq_true hn
  have h3 : decide ((1024 : Int) < (n : Int)) = true := decide_eq_true (by omega)
  go_enter Try.func19, Try.ntmps19
  go_wp2
  go_ret2
  exact ⟨rfl, rfl⟩

set_option maxHeartbeats 4000000 in
set_option maxRecDepth 100000 in
theorem NewR_ok (w : World) (A : Option Addr) (c : Nat) (zs : List Int) (hz : Kd.C (Kd.int .i64) w A zs.length zs) (hn : zs.length ≤ 1024) : Calls Try.prog 19 #[.slice A zs.length c] w (RowPost 59 w zs) := by
  have h1 : decide ((zs.length : Int) > 1024) = false := decide_eq_false (by omega)
  have h2 : decide (1024 < zs.length) = false := decide_eq_false (by omega)
  have h3 : decide ((1024 : Int) < (zs.length : Int)) = false := decide_eq_false (by omega)
  have HZ := Aside0.mk hz
  clear hz
  go_enter Try.func19, Try.ntmps19
  go_wp2_with (first
    | ((with_reducible refine gate_dst (N := 7) rfl ?_); refine Kd.R_lit (Kd.int .i64) _ 3 ?hg (N := 7) ?hd (xs := ([] : List Int)) (inner := []) (ok := fun _ => True) (okp := fun _ => True) ?hr ?hp (fun _ hk => hk) trivial (Below.refl _ _) (Nat.le_refl _) (by simp) ?_; (case hd => rfl); (case hg => rfl); (case hr => first | (go_simp; done) | (go_simp; rfl)); (case hp => exact (Reps.none _ _)); intro v1 w3 ho4 hb4 hg_ hnew_; clear hg_ hnew_; have HO := Aside0.mk ho4; have HB := Aside0.mk hb4; clear ho4 hb4)
    | ((with_reducible refine gate_builtin (b := .append) (xs := #[(.tmp 7), .tmp 8]) rfl ?_); at_builtin; refine Kd.R_append_rows (Kd.int .i64) (w0 := w) w.heap.size rfl (.tmp 7) (.tmp 8) 23 3 (.int .i64 0) 8 rfl Try.underlying23 info3 rfl (by decide) (by omega) v1 [] zs _ _ _ (fun _ => True) (fun _ => False) rfl rfl ?aO ?aR (fun _ _ h => h) (fun _ h => h.elim) ?aF ?aB ?aS ?aL ?_; (case aR => exact Kd.C_below HZ.out HB.out); (case aB => exact HB.out); (case aF => exact (fun _ _ => trivial)); (case aO => exact HO.out); (case aS => exact HB.out.size); (case aL => simp; omega); intro v2 w5 ho hb hg hat; rw [List.nil_append] at ho; clear HO HB; have HO := Aside0.mk ho; have HB := Aside0.mk hb; clear ho hb hg hat; obtain ⟨A5, c5, e5⟩ := Kd.R_slice HO.out; subst e5))
  go_ret2
  obtain ⟨A', c', he, hl, hC⟩ := Kd.R_reads HO.out
  obtain ⟨rfl, -, rfl⟩ : A5 = A' ∧ zs.length = zs.length ∧ c5 = c' := by injection he with h4 h5 h6; exact ⟨h4, h5, h6⟩
  have hbl : ∀ a : Addr, A5 = some a → w.heap.size ≤ a.block ∧ a.block < w5.heap.size := fun a ha => by
    subst ha
    obtain ⟨v2, hv2⟩ : ∃ v2, (Value.slice (some a) zs.length c5).ownBlock = some v2 := ⟨_, rfl⟩
    have e : v2 = a.block := by
      simp [Value.ownBlock] at hv2
      exact hv2.symm
    rw [← e]
    exact ⟨Kd.R_base HO.out v2 hv2, Kd.R_lt HO.out v2 hv2⟩
  refine ⟨w5.heap.size, rfl, HB.out.size, ⟨A5, c5, blk_new w5 _, hl, Kd.C_alloc hC _, fun a ha => ?_⟩, below_then HB.out HB.out.size ((Below.refl _ w5).alloc (Nat.le_refl _) _), by simp⟩
  obtain ⟨h4, h5⟩ := hbl a ha
  exact ⟨by omega, h4, by simp; omega⟩

theorem same_l0 (zs : List Int) (hl : zs.length < 17592186044416) : ∀ (m i : Nat), zs.length - i < m → wimplelaw0_SameInts.l0 m zs zs (i : Int) = some true
  | 0, _, h => absurd h (by omega)
  | m + 1, i, h => by
    unfold wimplelaw0_SameInts.l0
    by_cases hi : (i : Int) < (zs.length : Int)
    · rw [if_pos hi, if_pos (by omega), if_pos hi, if_pos rfl, show wrap64 ((i : Int) + 1) = ((i + 1 : Nat) : Int) from by rw [w64 _ (by omega)]; omega]
      exact same_l0 zs hl m (i + 1) (by omega)
    · rw [if_neg hi]
theorem same_self (zs : List Int) (hl : zs.length < 17592186044416) : wimplelaw0_SameInts.f (zs.length + 1) zs zs = some true := by
  unfold wimplelaw0_SameInts.f
  rw [if_pos rfl]
  exact same_l0 zs hl _ 0 (by omega)

theorem C_short {α : Type} {d : Kd α} {w : World} {A : Option Addr} {xs ys : List α} {m : Nat} (h : Kd.C d w A m (xs ++ ys)) : Kd.C d w A xs.length xs := by
  obtain ⟨h1, h2, h3⟩ := h
  have hm : m = xs.length + ys.length := by rw [← h1, List.length_append]
  refine ⟨rfl, by omega, fun hn => ?_⟩
  obtain ⟨ad, e, hc⟩ := h3 (by omega)
  refine ⟨ad, e, fun j p hj => hc j p ?_⟩
  rw [List.getElem?_append_left (List.getElem?_eq_some_iff.1 hj).1]
  exact hj
theorem C_cell {w : World} {ad : Addr} {m : Nat} {xs : List Int} (h : Kd.C (Kd.int .i64) w (some ad) m xs) (j : Nat) (p : Int) (hj : xs[j]? = some p) : w.cell? (ad.add j) = some (.int .i64 p) := by
  obtain ⟨h1, h2, h3⟩ := h
  obtain ⟨ad', e, hc⟩ := h3 (by have := (List.getElem?_eq_some_iff.1 hj).1; omega)
  obtain rfl := Option.some.inj e
  obtain ⟨c, hl, hk, hx⟩ := hc j p hj
  obtain rfl : c = [.int .i64 p] := hk
  have := hx 0 _ rfl
  rw [show j * (Kd.int .i64).sz + 0 = j from Nat.mul_one j] at this
  exact this

set_option maxHeartbeats 4000000 in
set_option maxRecDepth 100000 in
theorem KeptInts_true (w : World) (ad : Addr) (c c0 : Nat) (A0 : Option Addr) (zs : List Int) (hl : zs.length < 17592186044410) (hC : Kd.C (Kd.int .i64) w (some ad) (zs.length + 2) (zs ++ [-7777, -8888])) (hc : zs.length + 2 ≤ c) (h0 : Kd.C (Kd.int .i64) w A0 zs.length zs) (hc0 : zs.length ≤ c0) :
    Calls Try.prog 20 #[.slice (some ad) zs.length c, .slice A0 zs.length c0] w fun e w' => e = .returned (.bool true) ∧ Drawn0 w w' := by
  have h7 : w.cell? (ad.add zs.length) = some (.int .i64 (-7777)) := C_cell hC zs.length _ (by simp)
  have h8 : w.cell? (ad.add (zs.length + 1)) = some (.int .i64 (-8888)) := C_cell hC (zs.length + 1) _ (by simp)
  have h9 : w.cell? ⟨ad.block, ad.off + (zs.length + 1), none⟩ = some (.int .i64 (-8888)) := by simpa [Addr.add] using h8
  have HC := Aside0.mk (C_short hC)
  have H0 := Aside0.mk h0
  obtain ⟨i012, hi012, _, hsz12, _⟩ := info_parts info3
  have hw2 : wrap64 ((zs.length : Int) + 2) = ((zs.length + 2 : Nat) : Int) := by rw [w64 _ (by omega)]; omega
  have hcut : ∀ W : World, (Instr.slice 23 (.slice (some ad) zs.length c) none (some (.int .i64 ((zs.length + 2 : Nat) : Int))) none).run Try.prog W = .ok (.slice (some ad) (zs.length + 2) c) W := by
    intro W
    have hel : Try.prog.elem 23 = 3 := by simp [Program.elem, Try.underlying23]
    have hu : Try.prog.underlying 23 = some (.slice (Try.prog.elem 23)) := by rw [hel]; exact Try.underlying23
    rw [run_slice_h W 23 (some ad) zs.length c hu .i64 _ (by omega) (by omega), hel]
    simp [sizeOf, typeInfo, hi012, sliced, Result.andThen, add_zero]
    omega
  clear hC h0 hsz12 hi012
  go_enter Try.func20, Try.ntmps20
  go_wp2_with fail
  refine (wimplelaw0_SameInts.calls (zs.length + 1) _ _ zs _ _ zs true _ HC.out (by omega) H0.out hc0 (same_self zs (by omega))).mono ?_
  rintro e w' ⟨rfl, ⟨nd, rfl⟩⟩
  simp only
  go_wp2_with fail
  go_ret
  exact ⟨rfl, ⟨nd, rfl⟩⟩

set_option maxHeartbeats 4000000 in
set_option maxRecDepth 100000 in
theorem SpoilInts_any (w : World) (b n c : Nat) (cs : Array Value) (hn : n ≤ 17592186044416) (hb : w.heap[b]? = some (.cells cs 3 (0, 0))) (hc : ∀ i, i < n → ∃ z, cs[i]? = some (.int .i64 z)) :
    Calls Try.prog 23 #[.slice (some ⟨b, 0, none⟩) n c] w fun e w' => e = .returned (.tuple #[]) ∧ w.grownBy w' (some b) := by
  have HB0 : Aside0 (∃ cs, w.heap[b]? = some (.cells cs 3 (0, 0)) ∧ ∀ i, i < n → ∃ z, cs[i]? = some (.int .i64 z)) := ⟨cs, hb, hc⟩
  clear hb hc
  go_enter Try.func23, Try.ntmps23
  go_wp2
  go_loopw [2] (fun v2 wr => ∃ i : Nat, i ≤ n ∧ v2 = .int .i64 i ∧ Aside0 (∃ cs, wr.heap[b]? = some (.cells cs 3 (0, 0)) ∧ ∀ i, i < n → ∃ z, cs[i]? = some (.int .i64 z)) ∧ Aside0 (w.grownBy wr (some b))) (fun v2 _ => n - (intOf v2).toNat)
  case atStart => exact ⟨0, Nat.zero_le _, rfl, HB0, ⟨World.grownBy.refl w _⟩⟩
  case round =>
    obtain ⟨i, hi, rfl, HB, HG⟩ := hrel
    by_cases hlt : i < n
    · have hd1 : decide ((i : Int) < (n : Int)) = true := decide_eq_true (by omega)
      have hd2 : decide (i < n) = true := decide_eq_true hlt
      obtain ⟨cs, hb, hz⟩ := HB.out
      obtain ⟨z, hz0⟩ := hz i hlt
      have hcell : wr.cell? ⟨b, i, none⟩ = some (.int .i64 z) := (blk_cell hb i).trans hz0
      have hf : wr.frozen? ⟨b, i, none⟩ = false := blk_frozen hb i
      have HH := Aside0.mk hb
      have HZ := Aside0.mk hz
      clear hb hz HB
      go_wp2_with fail
      go_roundw
      case rel =>
        refine ⟨i + 1, by omega, by go_num, ⟨_, blk_set HH.out i _, fun q hq => ?_⟩, ⟨HG.out.trans (only_cell wr b i _)⟩⟩
        rw [Array.getElem?_setIfInBounds]
        obtain ⟨zq, hzq⟩ := HZ.out q hq
        by_cases e : i = q
        · subst e
          have hsz := (Array.getElem?_eq_some_iff.1 hzq).1
          rw [if_pos rfl, if_pos hsz]
          exact ⟨_, rfl⟩
        · rw [if_neg e]
          exact ⟨zq, hzq⟩
      case measure => simp [intOf]; omega
    · obtain rfl : i = n := by omega
      have hd1 : decide ((i : Int) < (i : Int)) = false := decide_eq_false (by omega)
      have hd2 : decide (i < i) = false := decide_eq_false (by omega)
      go_wp2_with fail
      go_end0
      exact ⟨rfl, HG.out⟩
end Go.Proofs.Ytjmdfhbenejfgaa.M
