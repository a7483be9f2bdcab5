/- Package ids: what New, Next and Left do to memory. -/
import Derived.Test.YtjmdfhbenejfgaaProg
import Derived.Test.YtjmdfhbenejfgaaShelf
import Derived.Test.YtjmdfhbenejfgaaWWords
import Derived.Test.YtjmdfhbenejfgaaWLast
import Derived.Test.YtjmdfhbenejfgaaMBits
import Derived.WalkKit
import Derived.IntWalk
import Derived.Deep.Slices
set_option linter.unusedVariables false
set_option linter.unusedSimpArgs false
namespace Go.Proofs.Ytjmdfhbenejfgaa.M
open Go Go.RowKit Go.Proofs.YtjmdfhbenejfgaaW.PrintWords

/-- The block g holds numbers that are left: a row elsewhere that reads zs. -/
def IdsAt (w : World) (g : Nat) (zs : List Int) : Prop := ∃ (A : Option Addr) (c : Nat), w.heap[g]? = some (.cells #[.slice A zs.length c] 57 (0, 0)) ∧ zs.length ≤ c ∧ Kd.C (Kd.int .i64) w A zs.length zs ∧ (∀ a, A = some a → a.block ≠ g ∧ a.block < w.heap.size)

theorem add_zero (a : Addr) : a.add 0 = a := by simp [Addr.add]
theorem C_tail {w : World} {a : Addr} {z : Int} {zs : List Int} (h : Kd.C (Kd.int .i64) w (some a) (zs.length + 1) (z :: zs)) : w.cell? a = some (.int .i64 z) ∧ Kd.C (Kd.int .i64) w (some (a.add 1)) zs.length zs := by
  obtain ⟨h1, h2, h3⟩ := h
  obtain ⟨ad, e, hc⟩ := h3 (by omega)
  obtain rfl := Option.some.inj e
  refine ⟨?_, rfl, by omega, fun _ => ⟨_, rfl, fun j p hj => ?_⟩⟩
  · obtain ⟨c, hl, hk, hx⟩ := hc 0 z rfl
    have hk' : c = [.int .i64 z] := hk
    subst hk'
    have := hx 0 _ rfl
    rw [show 0 * (Kd.int .i64).sz + 0 = 0 from rfl, add_zero] at this
    exact this
  · obtain ⟨c, hl, hk, hx⟩ := hc (j + 1) p hj
    refine ⟨c, hl, hk, fun i u hi => ?_⟩
    have := hx i u hi
    rw [show (a.add 1).add (j * (Kd.int .i64).sz + i) = a.add ((j + 1) * (Kd.int .i64).sz + i) from ?_]
    · exact this
    · rw [Go.Deep.add_add, show (j + 1) * (Kd.int .i64).sz + i = 1 + (j * (Kd.int .i64).sz + i) from (by show (j + 1) * 1 + i = 1 + (j * 1 + i); omega)]

theorem add_block (a : Addr) (i : Nat) : (a.add i).block = a.block := by
  unfold Addr.add
  split <;> rfl
theorem u16w (z : Int) : wrap64 (IntKind.u16.wrap z) = z % 65536 := by
  show wrap64 (z % 65536) = _
  rw [w64 _ (by omega)]
theorem ret2 {a b : Int} (h : a = b) {c : Int} : Ending.returned (.tuple #[.int .i64 a, .int .i64 c]) = .returned (.tuple #[.int .i64 b, .int .i64 c]) := by rw [h]
theorem nil_any {α : Type} (d : Kd α) (w : World) (A : Option Addr) : Kd.C d w A ([] : List α).length [] := ⟨rfl, by simp, fun h => absurd h (by simp)⟩
theorem only_cell (w : World) (g i : Nat) (u : Value) : w.grownBy (w.setCell ⟨g, i, none⟩ u) (some g) :=
  ⟨rfl, rfl, rfl, by simp [World.setCell], fun j hj hne => Below.heap_setCell w ⟨g, i, none⟩ u j (by
    show j ≠ g
    rintro rfl
    exact hne rfl)⟩
theorem C_far {w : World} {a : Addr} {zs : List Int} {g i : Nat} {u : Value} (h : Kd.C (Kd.int .i64) w (some a) zs.length zs) (hne : a.block ≠ g) : Kd.C (Kd.int .i64) (w.setCell ⟨g, i, none⟩ u) (some a) zs.length zs := by
  obtain ⟨h1, h2, h3⟩ := h
  refine ⟨h1, h2, fun hn => ?_⟩
  obtain ⟨ad, e, hc⟩ := h3 hn
  obtain rfl := Option.some.inj e
  refine ⟨_, rfl, fun j p hj => ?_⟩
  obtain ⟨c, hl, hk, hx⟩ := hc j p hj
  refine ⟨c, hl, hk, fun q v hv => ?_⟩
  rw [← hx q v hv]
  exact World.cell?_of_block (Below.heap_setCell w ⟨g, i, none⟩ u _ (by rw [add_block]; exact hne))
theorem Num_any (n : Int) (w : World) : Calls Try.prog 21 #[.int .i64 n] w fun e w' => e = .returned (.int .i64 n) ∧ w' = w := by
  go_enter Try.func21, Try.ntmps21
  go_wp2
  go_ret
  exact ⟨rfl, rfl⟩

set_option maxRecDepth 100000 in
theorem Left_any (w : World) (g : Nat) (zs : List Int) (h : IdsAt w g zs) : Calls Try.prog 26 #[.pointer (some ⟨g, 0, none⟩)] w fun e w' => e = .returned (.int .i64 zs.length) ∧ w' = w := by
  obtain ⟨A, c, hb, hl, hC, hne⟩ := h
  have hcg : w.cell? ⟨g, 0, none⟩ = some (.slice A zs.length c) := (blk_cell hb 0).trans rfl
  clear hC hne hb
  go_enter Try.func26, Try.ntmps26
  go_wp2
  go_ret
  exact ⟨rfl, rfl⟩

set_option maxRecDepth 100000 in
theorem Next_nil (w : World) (g : Nat) (h : IdsAt w g []) : Calls Try.prog 24 #[.pointer (some ⟨g, 0, none⟩)] w fun e w' => e = .returned (.tuple #[.int .i64 0, .int .i64 1801]) ∧ w' = w := by
  obtain ⟨A, c, hb, hl, hC, hne⟩ := h
  have hcg : w.cell? ⟨g, 0, none⟩ = some (.slice A 0 c) := (blk_cell hb 0).trans rfl
  clear hC hne hb
  go_enter Try.func24, Try.ntmps24
  go_wp2
  go_ret2
  exact ⟨rfl, rfl⟩

set_option maxRecDepth 100000 in
theorem Next_some (w : World) (g : Nat) (z : Int) (zs : List Int) (h : IdsAt w g (z :: zs)) : Calls Try.prog 24 #[.pointer (some ⟨g, 0, none⟩)] w fun e w' => e = .returned (.tuple #[.int .i64 (z % 65536), .int .i64 0]) ∧ IdsAt w' g zs ∧ w.grownBy w' (some g) := by
  obtain ⟨A, c, hb, hl, hC, hne⟩ := h
  obtain ⟨ad, rfl⟩ : ∃ ad, A = some ad := by
    obtain ⟨ad, e, _⟩ := hC.2.2 (by simp)
    exact ⟨ad, e⟩
  obtain ⟨hz, hT⟩ := C_tail hC
  have hcg : w.cell? ⟨g, 0, none⟩ = some (.slice (some ad) (zs.length + 1) c) := (blk_cell hb 0).trans rfl
  have hfg : w.frozen? ⟨g, 0, none⟩ = false := blk_frozen hb 0
  have HB := Aside0.mk hb
  have HT := Aside0.mk hT
  have HN := Aside0.mk hne
  have hl1 : zs.length + 1 ≤ c := by simpa using hl
  clear hC hne hb hT hl
  go_enter Try.func24, Try.ntmps24
  go_wp2
  · obtain rfl : c = 1 := by assumption
    obtain rfl : zs = [] := List.eq_nil_of_length_eq_zero (by omega)
    go_ret2
    refine ⟨ret2 (u16w z), ⟨some ad, 0, blk_put HB.out 0 _ rfl, Nat.zero_le _, nil_any _ _ _, fun a ha => ?_⟩, only_cell w g 0 _⟩
    obtain ⟨h1, h2⟩ := HN.out a ha
    exact ⟨h1, by simpa [World.setCell] using h2⟩
  · go_ret2
    refine ⟨ret2 (u16w z), ⟨some (ad.add 1), c - 1, blk_put HB.out 0 _ rfl, by omega, C_far HT.out (by rw [add_block]; exact (HN.out ad rfl).1), fun a ha => ?_⟩, only_cell w g 0 _⟩
    obtain rfl := Option.some.inj ha
    obtain ⟨h1, h2⟩ := HN.out ad rfl
    exact ⟨by rw [add_block]; exact h1, by rw [add_block]; simpa [World.setCell] using h2⟩

set_option maxRecDepth 100000 in
theorem New_bad (w : World) (A : Option Addr) (n c : Nat) (hn : 1024 < n) : Calls Try.prog 18 #[.slice A n c] w fun e w' => e = .returned (.tuple #[.pointer none, .int .i64 1800]) ∧ w' = w := by
  have h1 : decide ((n : Int) > 1024) = true := decide_eq_true (by omega)
  have h2 : decide (1024 < n) = true := decide_eq_true hn
  have h3 : decide ((1024 : Int) < (n : Int)) = true := decide_eq_true (by omega)
  go_enter Try.func18, Try.ntmps18
  go_wp2
  go_ret2
  exact ⟨rfl, rfl⟩

/-- What New leaves: a new block that holds a new row of the same numbers. -/
def NewPost (w : World) (zs : List Int) (e : Ending) (w' : World) : Prop := ∃ g, e = .returned (.tuple #[.pointer (some ⟨g, 0, none⟩), .int .i64 0]) ∧ w.heap.size ≤ g ∧ IdsAt w' g zs ∧ Below w.heap.size w w'
set_option maxRecDepth 100000 in
theorem New_ok (w : World) (b off c : Nat) (zs : List Int) (hz : Kd.C (Kd.int .i64) w (some ⟨b, off, none⟩) zs.length zs) (hn : zs.length ≤ 1024) : Calls Try.prog 18 #[.slice (some ⟨b, off, none⟩) zs.length c] w (NewPost w zs) := by
  have h1 : decide ((zs.length : Int) > 1024) = false := decide_eq_false (by omega)
  have h2 : decide (1024 < zs.length) = false := decide_eq_false (by omega)
  have h3 : decide ((1024 : Int) < (zs.length : Int)) = false := decide_eq_false (by omega)
  have HC : Aside0 (∀ j, j < zs.length → w.cell? ⟨b, off + j, none⟩ = some (.int .i64 (zs.getD j 0))) := ⟨fun j hj => by
    obtain ⟨ad, e, hc⟩ := hz.2.2 (by omega)
    obtain rfl := Option.some.inj e
    obtain ⟨cs, hl, hk, hx⟩ := hc j _ (List.getElem?_eq_getElem hj)
    have hk' : cs = [.int .i64 zs[j]] := hk
    subst hk'
    have := hx 0 _ rfl
    rw [show j * (Kd.int .i64).sz + 0 = j from Nat.mul_one j, Addr.add_lit] at this
    rw [this, List.getD_eq_getElem?_getD, List.getElem?_eq_getElem hj]
    rfl⟩
  clear hz
  go_enter Try.func18, Try.ntmps18
  go_wp2_with fail
  refine (Try.slices_Clone_int b off zs.length c zs _ (Nat.le_refl _) (by omega) HC.out).mono ?_
  rintro e w1 ⟨v', rfl, ho, hne, hb⟩
  rw [List.take_length] at ho
  have hR : Kd.R (Kd.int .i64) 3 w1 w.heap.size (fun _ => True) v' zs := Kd.R_of_own (h1 := fun _ => rfl) (ok := fun _ => True) ho (fun _ _ => trivial)
  clear ho hne
  obtain ⟨A, c', rfl, hl, hC⟩ := Kd.R_reads hR
  have HL := Aside0.mk hl
  have HCC := Aside0.mk hC
  have HLT := Aside0.mk (Kd.R_lt hR)
  have HB := Aside0.mk hb
  clear hl hC hR hb
  simp only
  go_wp2_with fail
  go_ret2
  refine ⟨w1.heap.size, rfl, HB.out.size, ⟨A, c', blk_new w1 _, HL.out, Kd.C_alloc HCC.out _, fun a ha => ?_⟩, below_then HB.out HB.out.size ((Below.refl _ w1).alloc (Nat.le_refl _) _)⟩
  subst ha
  have hlt : a.block < w1.heap.size := by
    obtain ⟨v2, hv2⟩ : ∃ v2, (Value.slice (some a) zs.length c').ownBlock = some v2 := ⟨_, rfl⟩
    have e : v2 = a.block := by
      simp [Value.ownBlock] at hv2
      exact hv2.symm
    rw [← e]
    exact HLT.out v2 hv2
  exact ⟨by omega, by simp; omega⟩
end Go.Proofs.Ytjmdfhbenejfgaa.M
