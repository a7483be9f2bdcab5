/- KeptOptions, SpoilOptions, the document's Strip; Strips. -/
import Derived.Deep.RegionHeld3
import Derived.Test.YtjmdfhbenejfgaaHEcs4
import Derived.Test.YtjmdfhbenejfgaaHRows2
import Derived.Test.YtjmdfhbenejfgaaHIdRows
set_option linter.unusedVariables false
set_option linter.unusedSimpArgs false
namespace Go.Proofs.Ytjmdfhbenejfgaa.M
open Go Go.RowKit Go.Proofs.YtjmdfhbenejfgaaW.PrintWords Go.Proofs.YtjmdfhbenejfgaaW.PrintLast Go.Proofs.YtjmdfhbenejfgaaW.PrintMore Go.Proofs.Ytjmdfhbenejfgaa.P
attribute [local go_sem high] eqA52

def mark : S52 := ⟨77777, ⟨#[]⟩⟩
theorem copyO_f (zs : List S52) (h : zs.length < 5864062014805) : wimplelaw0_CopyOptions.f zs = some zs := by
  simp [wimplelaw0_CopyOptions.f, h]
theorem lendO_f (zs : List S52) (h : zs.length < 5864062014800) : wimplelaw0_LendOptions.f zs = some zs := by
  unfold wimplelaw0_LendOptions.f
  rw [copyO_f zs (by omega)]
  simp only [Option.bind_some, List.length_append, List.length_cons, List.length_nil]
  rw [if_pos (by omega), if_pos (by omega), if_pos (by omega)]
  simp

def LentOPost (w : World) (zs : List S52) (e : Ending) (w' : World) : Prop := ∃ (g c : Nat), e = .returned (.slice (some ⟨g, 0, none⟩) zs.length c) ∧ w.heap.size ≤ g ∧ zs.length + 2 ≤ c ∧ RowB w' g (zs ++ [mark, mark]) ∧ Below w.heap.size w w'
theorem LendO_post (A0 : Option Addr) (c0 : Nat) (zs : List S52) (w : World) (h0 : Kd.C k52 w A0 zs.length zs) (hc0 : zs.length ≤ c0) (hl : zs.length < 5864062014800) : Calls Try.prog 28 #[.slice A0 zs.length c0] w (LentOPost w zs) := by
  refine (wimplelaw0_LendOptions.lent A0 c0 zs zs w h0 hc0 (lendO_f zs hl)).mono ?_
  rintro e w' ⟨A, c, t, ht, rfl, hR, hB⟩
  obtain rfl := Option.some.inj ((copyO_f zs (by omega)).symm.trans ht)
  obtain ⟨A', c', he, hle, hC⟩ := Kd.R_reads hR
  injection he with h4 h5 h6
  subst h4 h6
  have hlen : (zs ++ [mark, mark]).length = zs.length + 2 := by simp
  obtain ⟨inner, ho⟩ := Kd.R_own hR
  rcases ho.2 with ⟨h1, h2⟩ | ⟨g, cap, cur, hv, hg, hh, hnc, hmx, _⟩
  · exact absurd (hlen.symm.trans h2) (by omega)
  · injection hv with h7 h8 h9
    subst h7
    exact ⟨g, c, rfl, hg, by rw [← hlen]; exact hle, RowB_of hh hC, hB⟩

set_option maxHeartbeats 4000000 in
set_option maxRecDepth 100000 in
theorem KeptOptions_true (w : World) (g c c0 : Nat) (A0 : Option Addr) (zs : List S52) (hl : zs.length < 5864062014800) (hR : RowB w g (zs ++ [mark, mark])) (hc : zs.length + 2 ≤ c) (h0 : Kd.C k52 w A0 zs.length zs) (hc0 : zs.length ≤ c0) :
    Calls Try.prog 32 #[.slice (some ⟨g, 0, none⟩) zs.length c, .slice A0 zs.length c0] w fun e w' => e = .returned (.bool true) ∧ Drawn0 w w' := by
  have hC := RowB_C hR (by simp; omega)
  obtain ⟨cs, hh, hcs⟩ := hR
  have z1 := hcs zs.length mark (by simp)
  have z2 := hcs (zs.length + 1) mark (by simp)
  have h70 : w.cell? ⟨g, zs.length * 2, none⟩ = some (.int .i64 77777) := (blk_cell hh _).trans z1.1
  have h71 : w.cell? ⟨g, zs.length * 2 + 1, none⟩ = some (.string ⟨#[]⟩) := (blk_cell hh _).trans z1.2
  have h80 : w.cell? ⟨g, (zs.length + 1) * 2, none⟩ = some (.int .i64 77777) := (blk_cell hh _).trans z2.1
  have h81 : w.cell? ⟨g, (zs.length + 1) * 2 + 1, none⟩ = some (.string ⟨#[]⟩) := (blk_cell hh _).trans z2.2
  have HC := Aside0.mk (C_short hC)
  have H0 := Aside0.mk h0
  obtain ⟨i012, hi012, _, hsz12, _⟩ := info_parts info52
  have hw2 : wrap64 ((zs.length : Int) + 2) = ((zs.length + 2 : Nat) : Int) := by rw [w64 _ (by omega)]; omega
  have hcut : ∀ W : World, (Instr.slice 42 (.slice (some ⟨g, 0, none⟩) zs.length c) none (some (.int .i64 ((zs.length + 2 : Nat) : Int))) none).run Try.prog W = .ok (.slice (some ⟨g, 0, none⟩) (zs.length + 2) c) W := by
    intro W
    have hel : Try.prog.elem 42 = 52 := by simp [Program.elem, Try.underlying42]
    have hu : Try.prog.underlying 42 = some (.slice (Try.prog.elem 42)) := by rw [hel]; exact Try.underlying42
    rw [run_slice_h W 42 (some ⟨g, 0, none⟩) zs.length c hu .i64 _ (by omega) (by omega), hel]
    simp [sizeOf, typeInfo, hi012, sliced, Result.andThen, add_zero]
    omega
  clear hC h0 hsz12 hi012 hh hcs z1 z2
  go_enter Try.func32, Try.ntmps32
  go_wp2_with fail
  refine (wimplelaw0_SameOptions.calls (zs.length + 1) _ _ zs _ _ zs true _ HC.out (by omega) H0.out hc0 (sameO_self zs (by omega))).mono ?_
  rintro e w' ⟨rfl, ⟨nd, rfl⟩⟩
  simp only
  go_wp2_with fail
  go_ret
  exact ⟨rfl, ⟨nd, rfl⟩⟩

set_option maxHeartbeats 4000000 in
set_option maxRecDepth 100000 in
theorem SpoilO_row (w : World) (g c : Nat) (ys : List S52) (hn : ys.length ≤ 5864062014805) (hR : RowB w g ys) :
    Calls Try.prog 34 #[.slice (some ⟨g, 0, none⟩) ys.length c] w fun e w' => e = .returned (.tuple #[]) ∧ w.grownBy w' (some g) := by
  have HB0 : Aside0 (∃ zs : List S52, zs.length = ys.length ∧ RowB w g zs) := ⟨ys, rfl, hR⟩
  clear hR
  generalize ys.length = n at *
  go_enter Try.func34, Try.ntmps34
  go_wp2
  go_loopw [2] (fun v2 wr => ∃ i : Nat, i ≤ n ∧ v2 = .int .i64 i ∧ Aside0 (∃ zs : List S52, zs.length = n ∧ RowB wr g zs) ∧ Aside0 (w.grownBy wr (some g))) (fun v2 _ => n - (intOf v2).toNat)
  case atStart => exact ⟨0, Nat.zero_le _, rfl, HB0, ⟨World.grownBy.refl w _⟩⟩
  case round =>
    obtain ⟨i, hi, rfl, HB, HG⟩ := hrel
    by_cases hlt : i < n
    · have hd1 : decide ((i : Int) < (n : Int)) = true := decide_eq_true (by omega)
      have hd2 : decide (i < n) = true := decide_eq_true hlt
      obtain ⟨zs, hz, hR⟩ := HB.out
      have HR := Aside0.mk hR
      have HZ := Aside0.mk hz
      obtain ⟨cs, hh, hcs⟩ := hR
      have z1 := hcs i _ (List.getElem?_eq_getElem (by omega : i < zs.length))
      obtain ⟨p, hp⟩ : ∃ p, zs[i]'(by omega) = p := ⟨_, rfl⟩
      rw [hp] at z1
      have hcell : wr.cell? ⟨g, i * 2, none⟩ = some (.int .i64 p.f0) := (blk_cell hh _).trans z1.1
      have hf : wr.frozen? ⟨g, i * 2, none⟩ = false := blk_frozen hh _
      have HH := Aside0.mk hh
      have HS := Aside0.mk hcs
      clear hh hcs z1 hp HB hz
      generalize p.f0 = pf at *
      go_wp2_with fail
      go_roundw
      case rel =>
        refine ⟨i + 1, by omega, by go_num, ⟨zs.set i ⟨bits .xor .i64 pf 90, (zs[i]'(by have := HZ.out; omega)).f1⟩, by rw [List.length_set]; exact HZ.out, ?_⟩, ⟨HG.out.trans (only_cell' wr g _ _)⟩⟩
        refine ⟨_, blk_set HH.out _ _, fun q r hq => ?_⟩
        have zi := HS.out i _ (List.getElem?_eq_getElem (by have := HZ.out; omega : i < zs.length))
        have s0 := (Array.getElem?_eq_some_iff.1 zi.1).1
        rw [List.getElem?_set] at hq
        rw [Array.getElem?_setIfInBounds, Array.getElem?_setIfInBounds]
        by_cases e : i = q
        · subst e
          rw [if_pos rfl, if_pos (by have := HZ.out; omega)] at hq
          obtain rfl := Option.some.inj hq
          rw [if_pos rfl, if_pos s0, if_neg (by omega)]
          exact ⟨rfl, zi.2⟩
        · rw [if_neg e] at hq
          rw [if_neg (by omega), if_neg (by omega)]
          exact HS.out q r hq
      case measure => simp [intOf]; omega
    · obtain rfl : i = n := by omega
      have hd1 : decide ((i : Int) < (i : Int)) = false := decide_eq_false (by omega)
      have hd2 : decide (i < i) = false := decide_eq_false (by omega)
      go_wp2_with fail
      go_end0
      exact ⟨rfl, HG.out⟩
set_option maxHeartbeats 4000000 in
set_option maxRecDepth 100000 in
theorem SpoilO_nil (w : World) : Calls Try.prog 34 #[.slice none 0 0] w fun e w' => e = .returned (.tuple #[]) ∧ w' = w := by
  go_enter Try.func34, Try.ntmps34
  go_wp2
  go_loopw [2] (fun v2 wr => v2 = .int .i64 0 ∧ wr = w) (fun _ _ => 0)
  case atStart => exact ⟨rfl, rfl⟩
  case round =>
    obtain ⟨rfl, rfl⟩ := hrel
    go_wp2
    go_end0
    exact ⟨rfl, rfl⟩
theorem SpoilO_own (w : World) (base : Nat) (v : Value) (ys : List S52) (hn : ys.length ≤ 5864062014805) (h : OwnR w base v ys) (hb : base ≤ w.heap.size) :
    Calls Try.prog 34 #[v] w fun e w' => e = .returned (.tuple #[]) ∧ Below base w w' := by
  obtain ⟨hm, ⟨rfl, rfl⟩ | ⟨g, c, rfl, hg, hc, hR⟩⟩ := h
  · refine (SpoilO_nil w).mono ?_
    rintro e w' ⟨rfl, rfl⟩
    exact ⟨rfl, Below.refl _ _⟩
  · refine (SpoilO_row w g c ys hn hR).mono ?_
    rintro e w' ⟨rfl, h2⟩
    exact ⟨rfl, (Below.refl base w).grown h2 hb (fun j hj => by cases hj; exact hg)⟩

theorem refStrip_l0 (f0 f1 f2 : Int) (f3 : Bool) (f4 : Int) (xs : List S52) (hl : xs.length < 5864062014800) : ∀ (m i : Nat), i ≤ xs.length → xs.length - i < m → wimpleref4_Strip.l0 m ((xs.take i).filter notE) (i : Int) f0 f1 f2 f3 f4 xs = some (f0, f1, f2, f3, f4, xs.filter notE)
  | 0, _, _, h => absurd h (by omega)
  | m + 1, i, hix, h => by
    unfold wimpleref4_Strip.l0
    by_cases hi : (i : Int) < (xs.length : Int)
    · have hiN : i < xs.length := by omega
      have hlt : ((xs.take i).filter notE).length ≤ i := Nat.le_trans (List.length_filter_le _ _) (by rw [List.length_take]; omega)
      have hnx : wrap64 ((i : Int) + 1) = ((i + 1 : Nat) : Int) := by rw [w64 _ (by omega)]; omega
      rw [if_pos hi, if_pos (by omega), rd_get hiN, hnx]
      have ih := refStrip_l0 f0 f1 f2 f3 f4 xs hl m (i + 1) (by omega) (by omega)
      rw [take_next hiN] at ih
      by_cases h8 : xs[i].f0 = 8
      · rw [if_pos h8]
        rw [show isE xs[i] = true from by simp [isE, h8], if_pos rfl, List.append_nil] at ih
        exact ih
      · rw [if_neg h8, if_pos (by omega)]
        rw [show isE xs[i] = false from by simp [isE, h8]] at ih
        exact ih
    · obtain rfl : i = xs.length := by omega
      rw [if_neg hi, List.take_length]
theorem refStrip_f (f0 f1 f2 : Int) (f3 : Bool) (f4 : Int) (xs : List S52) (hl : xs.length < 5864062014800) : wimpleref4_Strip.f (xs.length + 1) f0 f1 f2 f3 f4 xs = some (f0, f1, f2, f3, f4, xs.filter notE) :=
  refStrip_l0 f0 f1 f2 f3 f4 xs hl _ 0 (Nat.zero_le _) (by omega)
theorem has_less (xs : List S52) : xs.any isE = decide (((xs.filter notE).length : Int) < (xs.length : Int)) := by
  induction xs with
  | nil => rfl
  | cons x r ih =>
    have hle : (r.filter notE).length ≤ r.length := List.length_filter_le _ _
    cases h : isE x with
    | true =>
      rw [List.any_cons, h, List.filter_cons, if_neg (by simp [notE, h])]
      exact (decide_eq_true (by simp; omega)).symm
    | false =>
      rw [List.any_cons, h, Bool.false_or, ih, List.filter_cons, if_pos (by simp [notE, h])]
      congr 1
      simp
theorem strip_none (xs : List S52) : (xs.filter notE).any isE = false := by
  simp [List.any_filter, notE]
end Go.Proofs.Ytjmdfhbenejfgaa.M
