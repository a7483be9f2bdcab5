/- Both packages' numbers that are left: a row elsewhere, in blocks from lo to hi. -/
import Derived.Test.YtjmdfhbenejfgaaHLimits
import Derived.Test.YtjmdfhbenejfgaaHLend
set_option linter.unusedVariables false
set_option linter.unusedSimpArgs false
namespace Go.Proofs.Ytjmdfhbenejfgaa.M
open Go Go.RowKit Go.Proofs.YtjmdfhbenejfgaaW.PrintWords Go.Proofs.Ytjmdfhbenejfgaa.P

def RowAt (t lo hi : Nat) (w : World) (g : Nat) (zs : List Int) : Prop := ∃ (A : Option Addr) (c : Nat), w.heap[g]? = some (.cells #[.slice A zs.length c] t (0, 0)) ∧ zs.length ≤ c ∧ Kd.C (Kd.int .i64) w A zs.length zs ∧ (∀ a, A = some a → a.block ≠ g ∧ lo ≤ a.block ∧ a.block < hi)

theorem C_grown {w w' : World} {A : Option Addr} {zs : List Int} {r : Option Nat} (h : Kd.C (Kd.int .i64) w A zs.length zs) (hg : w.grownBy w' r) (hA : ∀ a, A = some a → a.block < w.heap.size ∧ some a.block ≠ r) : Kd.C (Kd.int .i64) w' A zs.length zs := by
  obtain ⟨h1, h2, h3⟩ := h
  refine ⟨h1, h2, fun hn => ?_⟩
  obtain ⟨ad, e, hc⟩ := h3 hn
  subst e
  refine ⟨_, rfl, fun j p hj => ?_⟩
  obtain ⟨c, hl, hk, hx⟩ := hc j p hj
  refine ⟨c, hl, hk, fun q v hv => ?_⟩
  rw [← hx q v hv]
  exact World.cell?_of_block (by rw [add_block]; exact hg.block _ (hA _ rfl).1 (hA _ rfl).2)
theorem RowAt_grown {t lo hi g : Nat} {w w' : World} {zs : List Int} {r : Option Nat} (h : RowAt t lo hi w g zs) (hg : w.grownBy w' r) (h1 : some g ≠ r) (h2 : ∀ k, r = some k → k < lo ∨ hi ≤ k) (h3 : hi ≤ w.heap.size) : RowAt t lo hi w' g zs := by
  obtain ⟨A, c, hh, hl, hC, hn⟩ := h
  refine ⟨A, c, blk_grown hh hg h1, hl, C_grown hC hg (fun a ha => ?_), hn⟩
  obtain ⟨_, ha2, ha3⟩ := hn a ha
  refine ⟨by omega, fun he => ?_⟩
  rcases h2 _ he.symm with h | h <;> omega
theorem RowAt_below {t lo hi g : Nat} {w w' : World} {zs : List Int} (h : RowAt t lo hi w g zs) (hb : Below w.heap.size w w') (h3 : hi ≤ w.heap.size) : RowAt t lo hi w' g zs := RowAt_grown (r := none) h (grown_of_below hb none) (by simp) (by simp) h3

set_option maxRecDepth 100000 in
theorem NextR_nil (lo hi : Nat) (w : World) (g : Nat) (h : RowAt 59 lo hi w g []) : Calls Try.prog 25 #[.pointer (some ⟨g, 0, none⟩)] w fun e w' => e = .returned (.tuple #[.int .i64 0, .int .i64 1801]) ∧ w' = w := by
  obtain ⟨A, c, hb, hl, hC, hne⟩ := h
  have hcg : w.cell? ⟨g, 0, none⟩ = some (.slice A 0 c) := (blk_cell hb 0).trans rfl
  clear hC hne hb
  go_enter Try.func25, Try.ntmps25
  go_wp2
  go_ret2
  exact ⟨rfl, rfl⟩
set_option maxRecDepth 100000 in
theorem NextI_nil (lo hi : Nat) (w : World) (g : Nat) (h : RowAt 57 lo hi w g []) : Calls Try.prog 24 #[.pointer (some ⟨g, 0, none⟩)] w fun e w' => e = .returned (.tuple #[.int .i64 0, .int .i64 1801]) ∧ w' = w := by
  obtain ⟨A, c, hb, hl, hC, hne⟩ := h
  have hcg : w.cell? ⟨g, 0, none⟩ = some (.slice A 0 c) := (blk_cell hb 0).trans rfl
  clear hC hne hb
  go_enter Try.func24, Try.ntmps24
  go_wp2
  go_ret2
  exact ⟨rfl, rfl⟩
set_option maxRecDepth 100000 in
theorem LeftR (lo hi : Nat) (w : World) (g : Nat) (zs : List Int) (h : RowAt 59 lo hi w g zs) : Calls Try.prog 27 #[.pointer (some ⟨g, 0, none⟩)] w fun e w' => e = .returned (.int .i64 zs.length) ∧ w' = w := by
  obtain ⟨A, c, hb, hl, hC, hne⟩ := h
  have hcg : w.cell? ⟨g, 0, none⟩ = some (.slice A zs.length c) := (blk_cell hb 0).trans rfl
  clear hC hne hb
  go_enter Try.func27, Try.ntmps27
  go_wp2
  go_ret
  exact ⟨rfl, rfl⟩
set_option maxRecDepth 100000 in
theorem LeftI (lo hi : Nat) (w : World) (g : Nat) (zs : List Int) (h : RowAt 57 lo hi w g zs) : Calls Try.prog 26 #[.pointer (some ⟨g, 0, none⟩)] w fun e w' => e = .returned (.int .i64 zs.length) ∧ w' = w := by
  obtain ⟨A, c, hb, hl, hC, hne⟩ := h
  have hcg : w.cell? ⟨g, 0, none⟩ = some (.slice A zs.length c) := (blk_cell hb 0).trans rfl
  clear hC hne hb
  go_enter Try.func26, Try.ntmps26
  go_wp2
  go_ret
  exact ⟨rfl, rfl⟩
set_option maxRecDepth 100000 in
theorem NextI_some (lo hi : Nat) (w : World) (g : Nat) (z : Int) (zs : List Int) (h : RowAt 57 lo hi w g (z :: zs)) : Calls Try.prog 24 #[.pointer (some ⟨g, 0, none⟩)] w fun e w' => e = .returned (.tuple #[.int .i64 (z % 65536), .int .i64 0]) ∧ RowAt 57 lo hi w' g zs ∧ w.grownBy w' (some g) := by
  obtain ⟨A, c, hb, hl, hC, hne⟩ := h
  obtain ⟨ad, rfl⟩ : ∃ ad, A = some ad := by
    obtain ⟨ad, e, _⟩ := hC.2.2 (by simp)
    exact ⟨ad, e⟩
  obtain ⟨hz, hT⟩ := C_tail hC
  have hcg : w.cell? ⟨g, 0, none⟩ = some (.slice (some ad) (zs.length + 1) c) := (blk_cell hb 0).trans rfl
  have hfg : w.frozen? ⟨g, 0, none⟩ = false := blk_frozen hb 0
  have HB := Aside0.mk hb
  have HT := Aside0.mk hT
  have HN := Aside0.mk hne
  have hl1 : zs.length + 1 ≤ c := by simpa using hl
  clear hC hne hb hT hl
  go_enter Try.func24, Try.ntmps24
  go_wp2
  · obtain rfl : c = 1 := by assumption
    obtain rfl : zs = [] := List.eq_nil_of_length_eq_zero (by omega)
    go_ret2
    exact ⟨ret2 (u16w z), ⟨some ad, 0, blk_put HB.out 0 _ rfl, Nat.zero_le _, nil_any _ _ _, HN.out⟩, only_cell w g 0 _⟩
  · go_ret2
    refine ⟨ret2 (u16w z), ⟨some (ad.add 1), c - 1, blk_put HB.out 0 _ rfl, by omega, C_far HT.out (by rw [add_block]; exact (HN.out ad rfl).1), fun a ha => ?_⟩, only_cell w g 0 _⟩
    obtain rfl := Option.some.inj ha
    rw [add_block]
    exact HN.out ad rfl
set_option maxRecDepth 100000 in
theorem NextR_some (lo hi : Nat) (w : World) (g : Nat) (z : Int) (zs : List Int) (h : RowAt 59 lo hi w g (z :: zs)) : Calls Try.prog 25 #[.pointer (some ⟨g, 0, none⟩)] w fun e w' => e = .returned (.tuple #[.int .i64 (z % 65536), .int .i64 0]) ∧ RowAt 59 lo hi w' g zs ∧ w.grownBy w' (some g) := by
  obtain ⟨A, c, hb, hl, hC, hne⟩ := h
  obtain ⟨ad, rfl⟩ : ∃ ad, A = some ad := by
    obtain ⟨ad, e, _⟩ := hC.2.2 (by simp)
    exact ⟨ad, e⟩
  obtain ⟨hz, hT⟩ := C_tail hC
  have hcg : w.cell? ⟨g, 0, none⟩ = some (.slice (some ad) (zs.length + 1) c) := (blk_cell hb 0).trans rfl
  have hfg : w.frozen? ⟨g, 0, none⟩ = false := blk_frozen hb 0
  have hand2 : bits .and .i64 z 65535 = z % 65536 := and65535 _
  have HB := Aside0.mk hb
  have HT := Aside0.mk hT
  have HN := Aside0.mk hne
  have hl1 : zs.length + 1 ≤ c := by simpa using hl
  clear hC hne hb hT hl
  go_enter Try.func25, Try.ntmps25
  go_wp2
  · obtain rfl : c = 1 := by assumption
    obtain rfl : zs = [] := List.eq_nil_of_length_eq_zero (by omega)
    go_ret2
    exact ⟨rfl, ⟨some ad, 0, blk_put HB.out 0 _ rfl, Nat.zero_le _, nil_any _ _ _, HN.out⟩, only_cell w g 0 _⟩
  · go_ret2
    refine ⟨rfl, ⟨some (ad.add 1), c - 1, blk_put HB.out 0 _ rfl, by omega, C_far HT.out (by rw [add_block]; exact (HN.out ad rfl).1), fun a ha => ?_⟩, only_cell w g 0 _⟩
    obtain rfl := Option.some.inj ha
    rw [add_block]
    exact HN.out ad rfl

/-- What New and NewIds leave: a new block that holds a new row of the same numbers. -/
def RowPost (t : Nat) (w : World) (zs : List Int) (e : Ending) (w' : World) : Prop := ∃ g, e = .returned (.tuple #[.pointer (some ⟨g, 0, none⟩), .int .i64 0]) ∧ w.heap.size ≤ g ∧ RowAt t w.heap.size w'.heap.size w' g zs ∧ Below w.heap.size w w' ∧ g < w'.heap.size
set_option maxRecDepth 100000 in
theorem NewI_ok (w : World) (b off c : Nat) (zs : List Int) (hz : Kd.C (Kd.int .i64) w (some ⟨b, off, none⟩) zs.length zs) (hn : zs.length ≤ 1024) : Calls Try.prog 18 #[.slice (some ⟨b, off, none⟩) zs.length c] w (RowPost 57 w zs) := by
  have h1 : decide ((zs.length : Int) > 1024) = false := decide_eq_false (by omega)
  have h2 : decide (1024 < zs.length) = false := decide_eq_false (by omega)
  have h3 : decide ((1024 : Int) < (zs.length : Int)) = false := decide_eq_false (by omega)
  have HC : Aside0 (∀ j, j < zs.length → w.cell? ⟨b, off + j, none⟩ = some (.int .i64 (zs.getD j 0))) := ⟨fun j hj => by
    obtain ⟨ad, e, hc⟩ := hz.2.2 (by omega)
    obtain rfl := Option.some.inj e
    obtain ⟨cs, hl, hk, hx⟩ := hc j _ (List.getElem?_eq_getElem hj)
    have hk' : cs = [.int .i64 zs[j]] := hk
    subst hk'
    have := hx 0 _ rfl
    rw [show j * (Kd.int .i64).sz + 0 = j from Nat.mul_one j, Addr.add_lit] at this
    rw [this, List.getD_eq_getElem?_getD, List.getElem?_eq_getElem hj]
    rfl⟩
  clear hz
  go_enter Try.func18, Try.ntmps18
  go_wp2_with fail
  refine (Try.slices_Clone_int b off zs.length c zs _ (Nat.le_refl _) (by omega) HC.out).mono ?_
  rintro e w1 ⟨v', rfl, ho, hne, hb⟩
  rw [List.take_length] at ho
  have hR : Kd.R (Kd.int .i64) 3 w1 w.heap.size (fun _ => True) v' zs := Kd.R_of_own (h1 := fun _ => rfl) (ok := fun _ => True) ho (fun _ _ => trivial)
  clear ho hne
  obtain ⟨A, c', rfl, hl, hC⟩ := Kd.R_reads hR
  have HL := Aside0.mk hl
  have HCC := Aside0.mk hC
  have HLT := Aside0.mk (Kd.R_lt hR)
  have HBS := Aside0.mk (Kd.R_base hR)
  have HB := Aside0.mk hb
  clear hl hC hR hb
  simp only
  go_wp2_with fail
  go_ret2
  have hbl : ∀ a : Addr, A = some a → w.heap.size ≤ a.block ∧ a.block < w1.heap.size := fun a ha => by
    subst ha
    obtain ⟨v2, hv2⟩ : ∃ v2, (Value.slice (some a) zs.length c').ownBlock = some v2 := ⟨_, rfl⟩
    have e : v2 = a.block := by
      simp [Value.ownBlock] at hv2
      exact hv2.symm
    rw [← e]
    exact ⟨HBS.out v2 hv2, HLT.out v2 hv2⟩
  refine ⟨w1.heap.size, rfl, HB.out.size, ⟨A, c', blk_new w1 _, HL.out, Kd.C_alloc HCC.out _, fun a ha => ?_⟩, below_then HB.out HB.out.size ((Below.refl _ w1).alloc (Nat.le_refl _) _), by simp⟩
  obtain ⟨h4, h5⟩ := hbl a ha
  exact ⟨by omega, h4, by simp; omega⟩
end Go.Proofs.Ytjmdfhbenejfgaa.M
