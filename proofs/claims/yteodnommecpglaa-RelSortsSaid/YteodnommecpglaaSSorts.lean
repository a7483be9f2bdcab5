/- RelSorts: names are laid into a row by the order of their labels. -/
import Derived.Test.YteodnommecpglaaSAwake2
import Derived.Test.YteodnommecpglaaPx16

set_option linter.unusedVariables false
set_option linter.unusedSimpArgs false
namespace Go.Proofs.Yteodnommecpglaa.M
open Go Go.RowKit Go.Proofs.YteodnommecpglaaW.PrintWords Go.Proofs.Yteodnommecpglaa.P

def cp (a b : ByteArray) : Int := cmpR (rl (B a)) (rl (B b))
def okA (xs : List ByteArray) : Prop := xs.Pairwise (fun a b => cp a b ≤ 0) ∧ ∀ a ∈ xs, (nm (B a)).isSome = true

theorem cp_trans (a b c : ByteArray) (h : cp a b ≤ 0) (h' : cp b c ≤ 0) : cp a c ≤ 0 := cmpR_trans _ _ _ h h'
theorem cp_flip (a b : ByteArray) (h : 0 < cp a b) : cp b a ≤ 0 := by
  have := cmpR_neg (rl (B a)) (rl (B b))
  unfold cp at *
  omega

theorem rdOf_at (xs : List ByteArray) (i : Nat) (h : i < xs.length) : rdOf ByteArray.empty xs (i : Int) = xs[i] := by
  unfold rdOf
  rw [Int.toNat_natCast, List.getD_eq_getElem?_getD, List.getElem?_eq_getElem h]
  rfl

theorem above_prefix {a b : Bytes} (ha : (nm a).isSome = true) (hb : (nm b).isSome = true) : aboveS a b = true ↔ rl a <+: rl b := by
  obtain ⟨x, hx⟩ := Option.isSome_iff_exists.1 ha
  obtain ⟨y, hy⟩ := Option.isSome_iff_exists.1 hb
  rw [aboveS_some hx hy, rl_some hx, rl_some hy, List.reverse_prefix]
  exact ⟨fun h => of_decide_eq_true h, fun h => decide_eq_true h⟩

theorem ins_ok (xs : List ByteArray) (v : ByteArray) (p : Nat) (hx : okA xs) (hv : (nm (B v)).isSome = true) (hp : p ≤ xs.length) (h1 : ∀ j (h : j < xs.length), j < p → cp xs[j] v ≤ 0) (h2 : ∀ h : p < xs.length, 0 < cp xs[p] v) :
    okA ((([] ++ xs.take p) ++ [v]) ++ xs.drop p) := by
  obtain ⟨hs, hn⟩ := hx
  have hs' := hs
  rw [← List.take_append_drop p xs, List.pairwise_append] at hs'
  rw [List.nil_append]
  refine ⟨?_, ?_⟩
  · rw [List.pairwise_append]
    refine ⟨?_, hs'.2.1, ?_⟩
    · rw [List.pairwise_append]
      refine ⟨hs'.1, List.pairwise_singleton _ _, ?_⟩
      intro a ha b hb
      obtain rfl := List.mem_singleton.1 hb
      obtain ⟨j, hj, rfl⟩ := List.mem_iff_getElem.1 ha
      rw [List.length_take] at hj
      rw [List.getElem_take]
      exact h1 j (by omega) (by omega)
    · intro a ha b hb
      rcases List.mem_append.1 ha with ha | ha
      · exact hs'.2.2 a ha b hb
      · obtain rfl := List.mem_singleton.1 ha
        by_cases q : p < xs.length
        · have hd := hs'.2.1
          rw [List.drop_eq_getElem_cons q] at hb hd
          have f := cp_flip _ _ (h2 q)
          rcases List.mem_cons.1 hb with rfl | hb
          · exact f
          · exact cp_trans _ _ _ f ((List.pairwise_cons.1 hd).1 b hb)
        · rw [List.drop_eq_nil_of_le (by omega)] at hb
          cases hb
  · intro a ha
    rcases List.mem_append.1 ha with ha | ha
    · rcases List.mem_append.1 ha with ha | ha
      · exact hn a (List.mem_of_mem_take ha)
      · obtain rfl := List.mem_singleton.1 ha
        exact hv
    · exact hn a (List.mem_of_mem_drop ha)

theorem ins_len (xs : List ByteArray) (v : ByteArray) (p : Nat) (hp : p ≤ xs.length) : ((([] ++ xs.take p) ++ [v]) ++ xs.drop p).length = xs.length + 1 := by
  simp only [List.length_append, List.length_nil, List.length_take, List.length_drop, List.length_cons]
  omega

theorem sorts_l4 (xs : List ByteArray) (hx : okA xs) (hl : xs.length ≤ 12) (i j : Nat) (hij : i < j) (hj : j < xs.length) (K : Ev (fun k => wimplelaw2_RelSorts.l3 k xs (i : Int) ((j + 1 : Nat) : Int)) true) : ∀ (d m : Nat), xs.length - m = d → j < m → m ≤ xs.length →
    Ev (fun k => wimplelaw2_RelSorts.l4 k xs (i : Int) (j : Int) (m : Int)) true := by
  intro d
  induction d with
  | zero =>
    intro m hd hm hm2
    refine Ev.step (fun k => by simp only [wimplelaw2_RelSorts.l4]; rfl) (Ev.neg (by omega) ?_)
    simp only [w_succ j (by omega)]
    exact K
  | succ d ih =>
    intro m hd hm hm2
    have hn := ih (m + 1) (by omega) (by omega) (by omega)
    have a1 := Above_ev (rdOf ByteArray.empty xs (i : Int)) (rdOf ByteArray.empty xs (m : Int))
    have a2 := Above_ev (rdOf ByteArray.empty xs (i : Int)) (rdOf ByteArray.empty xs (j : Int))
    refine Ev.step (fun k => by simp only [wimplelaw2_RelSorts.l4]; rfl) ?_
    simp only [w_succ m (by omega)]
    refine Ev.pos (by omega) (Ev.pos (by omega) (Ev.pos (by omega) (Ev.pos (by omega) (Ev.bind a1 ?_))))
    rw [rdOf_at xs i (by omega), rdOf_at xs m (by omega)]
    rw [rdOf_at xs i (by omega), rdOf_at xs j (by omega)] at a2
    cases h : aboveS (B xs[i]) (B xs[m]) with
    | false => exact Ev.neg (by decide) hn
    | true =>
      have n1 := hx.2 xs[i] (List.getElem_mem _)
      have n2 := hx.2 xs[j] (List.getElem_mem _)
      have n3 := hx.2 xs[m] (List.getElem_mem _)
      have c1 : cp xs[i] xs[j] ≤ 0 := List.pairwise_iff_getElem.1 hx.1 i j (by omega) (by omega) hij
      have c2 : cp xs[j] xs[m] ≤ 0 := List.pairwise_iff_getElem.1 hx.1 j m (by omega) (by omega) hm
      have hp := cmpR_between _ _ _ ((above_prefix n1 n3).1 h) c1 c2
      rw [(above_prefix n1 n2).2 hp] at a2
      refine Ev.pos rfl (Ev.pos (by omega) (Ev.pos (by omega) ?_))
      rw [rdOf_at xs j (by omega)]
      exact Ev.bind a2 (Ev.pos rfl hn)

theorem sorts_l3 (xs : List ByteArray) (hx : okA xs) (hl : xs.length ≤ 12) (i : Nat) (hi : i < xs.length) (K : Ev (fun k => wimplelaw2_RelSorts.l2 k xs ((i + 1 : Nat) : Int)) true) : ∀ (d j : Nat), xs.length - j = d → i < j → j ≤ xs.length →
    Ev (fun k => wimplelaw2_RelSorts.l3 k xs (i : Int) (j : Int)) true := by
  intro d
  induction d with
  | zero =>
    intro j hd hj hj2
    refine Ev.step (fun k => by simp only [wimplelaw2_RelSorts.l3]; rfl) (Ev.neg (by omega) ?_)
    simp only [w_succ i (by omega)]
    exact K
  | succ d ih =>
    intro j hd hj hj2
    have hn := ih (j + 1) (by omega) (by omega) (by omega)
    have h4 := sorts_l4 xs hx hl i j hj (by omega) hn (xs.length - (j + 1)) (j + 1) rfl (by omega) (by omega)
    have c1 : cp xs[i] xs[j] ≤ 0 := List.pairwise_iff_getElem.1 hx.1 i j (by omega) (by omega) hj
    refine Ev.step (fun k => by simp only [wimplelaw2_RelSorts.l3]; rfl) ?_
    simp only [w_succ j (by omega)]
    refine Ev.pos (by omega) (Ev.pos (by omega) (Ev.pos (by omega) (Ev.pos (by omega) (Ev.bind (Compare_ev _ _) ?_))))
    rw [rdOf_at xs i (by omega), rdOf_at xs j (by omega)]
    refine Ev.neg ?_ h4
    unfold cp at c1
    omega

theorem sorts_l2 (xs : List ByteArray) (hx : okA xs) (hl : xs.length ≤ 12) : ∀ (d i : Nat), xs.length - i = d → i ≤ xs.length → Ev (fun k => wimplelaw2_RelSorts.l2 k xs (i : Int)) true := by
  intro d
  induction d with
  | zero =>
    intro i hd hi
    refine Ev.step (fun k => by simp only [wimplelaw2_RelSorts.l2]; rfl) (Ev.neg (by omega) (Ev.bindp (num_eq _) ?_))
    exact Ev.pure _
  | succ d ih =>
    intro i hd hi
    have hn := ih (i + 1) (by omega) (by omega)
    have h3 := sorts_l3 xs hx hl i (by omega) hn (xs.length - (i + 1)) (i + 1) rfl (by omega) (by omega)
    refine Ev.step (fun k => by simp only [wimplelaw2_RelSorts.l2]; rfl) ?_
    simp only [w_succ i (by omega)]
    exact Ev.pos (by omega) h3

theorem sorts_l1 (x0 xs : List ByteArray) (hl : xs.length ≤ 12) (i : Nat) (hi : i < x0.length) (hi2 : i ≤ 12)
    (K : ∀ p, p ≤ xs.length → (∀ j (h : j < xs.length), j < p → cp xs[j] (rdOf ByteArray.empty x0 (i : Int)) ≤ 0) → (∀ h : p < xs.length, 0 < cp xs[p] (rdOf ByteArray.empty x0 (i : Int))) →
      Ev (fun k => wimplelaw2_RelSorts.l0 k x0 ((([] ++ xs.take p) ++ [rdOf ByteArray.empty x0 (i : Int)]) ++ xs.drop p) ((i + 1 : Nat) : Int)) true) : ∀ (d p : Nat), xs.length - p = d → p ≤ xs.length → (∀ j (h : j < xs.length), j < p → cp xs[j] (rdOf ByteArray.empty x0 (i : Int)) ≤ 0) →
    Ev (fun k => wimplelaw2_RelSorts.l1 k x0 xs (i : Int) (p : Int)) true := by
  intro d
  induction d with
  | zero =>
    intro p hd hp hb
    have hK := K p hp hb (fun h => absurd h (by omega))
    refine Ev.step (fun k => by simp only [wimplelaw2_RelSorts.l1]; rfl) ?_
    simp only [w_succ i (by omega), Int.toNat_natCast]
    refine Ev.neg (by omega) (Ev.pos (by omega) (Ev.pos (by omega) (Ev.bindp rfl (Ev.pos ?_ (Ev.bindp rfl (Ev.pos (by omega) (Ev.pos (by omega) (Ev.pos ?_ (Ev.bindp rfl (Ev.bindp rfl (Ev.pos ?_ hK)))))))))))
    · simp only [List.length_nil, List.length_take]; omega
    · simp only [List.length_append, List.length_nil, List.length_take]; omega
    · simp only [List.length_append, List.length_nil, List.length_take, List.length_drop, List.length_cons]; omega
  | succ d ih =>
    intro p hd hp hb
    have hc := Compare_ev (rdOf ByteArray.empty xs (p : Int)) (rdOf ByteArray.empty x0 (i : Int))
    refine Ev.step (fun k => by simp only [wimplelaw2_RelSorts.l1]; rfl) ?_
    simp only [w_succ i (by omega), w_succ p (by omega), Int.toNat_natCast]
    refine Ev.pos (by omega) (Ev.pos (by omega) (Ev.pos (by omega) (Ev.pos (by omega) (Ev.bind hc ?_))))
    have e : cmpR (rl (B (rdOf ByteArray.empty xs (p : Int)))) (rl (B (rdOf ByteArray.empty x0 (i : Int)))) = cp (xs[p]'(by omega)) (rdOf ByteArray.empty x0 (i : Int)) := by rw [rdOf_at xs p (by omega)]; rfl
    rw [e]
    by_cases q : cp (xs[p]'(by omega)) (rdOf ByteArray.empty x0 (i : Int)) ≤ 0
    · refine Ev.pos q (ih (p + 1) (by omega) (by omega) ?_)
      intro j h hj
      by_cases hjp : j = p
      · subst hjp
        exact q
      · exact hb j h (by omega)
    · have hK := K p hp hb (fun h => by omega)
      refine Ev.neg q (Ev.pos (by omega) (Ev.bindp rfl (Ev.pos ?_ (Ev.bindp rfl (Ev.pos ?_ (Ev.bindp rfl (Ev.bindp rfl (Ev.pos ?_ hK))))))))
      · simp only [List.length_nil, List.length_take]; omega
      · simp only [List.length_append, List.length_nil, List.length_take]; omega
      · simp only [List.length_append, List.length_nil, List.length_take, List.length_drop, List.length_cons]; omega

theorem sorts_l0 (x0 : List ByteArray) : ∀ (d i : Nat) (xs : List ByteArray), 12 - i = d → i ≤ 12 → okA xs → xs.length ≤ i → Ev (fun k => wimplelaw2_RelSorts.l0 k x0 xs (i : Int)) true := by
  intro d
  induction d with
  | zero =>
    intro i xs hd hi hx hl
    have h2 := sorts_l2 xs hx (by omega) xs.length 0 (by omega) (by omega)
    have J : Ev (fun k => wimplelaw2_RelSorts.j1 k x0 xs (i : Int) false) true := by
      refine Ev.step (fun k => by simp only [wimplelaw2_RelSorts.j1]; rfl) ?_
      exact Ev.neg (by decide) h2
    refine Ev.step (fun k => by simp only [wimplelaw2_RelSorts.l0]; rfl) ?_
    by_cases q : (i : Int) < (x0.length : Int)
    · refine Ev.pos q ?_
      rw [show decide ((i : Int) < 12) = false from decide_eq_false (by omega)]
      exact J
    · exact Ev.neg q J
  | succ d ih =>
    intro i xs hd hi hx hl
    have h2 := sorts_l2 xs hx (by omega) xs.length 0 (by omega) (by omega)
    have J : Ev (fun k => wimplelaw2_RelSorts.j1 k x0 xs (i : Int) false) true := by
      refine Ev.step (fun k => by simp only [wimplelaw2_RelSorts.j1]; rfl) ?_
      exact Ev.neg (by decide) h2
    refine Ev.step (fun k => by simp only [wimplelaw2_RelSorts.l0]; rfl) ?_
    by_cases q : (i : Int) < (x0.length : Int)
    · refine Ev.pos q ?_
      rw [show decide ((i : Int) < 12) = true from decide_eq_true (by omega)]
      refine Ev.step (fun k => by simp only [wimplelaw2_RelSorts.j1]; rfl) ?_
      simp only [w_succ i (by omega)]
      refine Ev.pos (by trivial) (Ev.pos (by omega) (Ev.pos q (Ev.bind (refMay_ev _) ?_)))
      cases hm : (nm (B (rdOf ByteArray.empty x0 (i : Int)))).isSome with
      | false => exact Ev.neg (by decide) (ih (i + 1) xs (by omega) (by omega) hx (by omega))
      | true =>
        refine Ev.pos rfl (sorts_l1 x0 xs (by omega) i (by omega) (by omega) ?_ xs.length 0 (by omega) (by omega) (fun j _ hj => absurd hj (by omega)))
        intro p hp hb1 hb2
        exact ih (i + 1) _ (by omega) (by omega) (ins_ok xs _ p hx hm hp hb1 hb2) (by rw [ins_len xs _ p hp]; omega)
    · exact Ev.neg q J

theorem RelSorts_ev (x0 : List ByteArray) : Ev (fun k => wimplelaw2_RelSorts.f k x0) true := by
  unfold wimplelaw2_RelSorts.f
  exact Ev.bind awake_ev (Ev.pos rfl (sorts_l0 x0 12 0 [] rfl (by omega) ⟨List.Pairwise.nil, fun a ha => by cases ha⟩ (by simp)))
theorem RelSorts_pure (x0 : List ByteArray) : ∃ k, wimplelaw2_RelSorts.f k x0 = some true := (RelSorts_ev x0).rounds
end Go.Proofs.Yteodnommecpglaa.M
