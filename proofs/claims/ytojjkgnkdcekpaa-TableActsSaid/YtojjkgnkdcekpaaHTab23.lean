/- Both tables side by side: what each method answers, and that both answer alike. -/
import Derived.Test.YtojjkgnkdcekpaaHTab22
import Derived.Test.YtojjkgnkdcekpaaPx8
set_option linter.unusedVariables false
set_option linter.unusedSimpArgs false
namespace Go.Proofs.Ytojjkgnkdcekpaa.M
open Go Go.RowKit Go.ChangeMaps Go.Proofs.YtojjkgnkdcekpaaW.PrintWords Go.Proofs.YtojjkgnkdcekpaaW.PrintLast Go.Proofs.YtojjkgnkdcekpaaW.PrintMore Go.Proofs.Ytojjkgnkdcekpaa.P

theorem fold_size (s : ByteArray) : (mkB (fold (B s))).size ≤ maxLen := by
  rw [sz_mk]
  cases h : nm (B s) with
  | none => rw [fold_none h]; decide
  | some ls =>
    rw [fold_length h]
    have := (nm_some.1 h).2.2
    unfold maxLen
    omega
theorem good_A {x : S35} (h : OkA x) : (keyA x).Good := by
  obtain ⟨h0, h1, h2, h3, h4, h5, h6⟩ := h
  exact ⟨wf_small x.f2 (by omega), wf_small x.f1 (by omega), fold_size _, wf_small x.f5.f1 (by omega)⟩
theorem good_Q {addr id t : Int} (ha : (Lit.int .i64 addr).wf = true) (hi : (Lit.int .i64 id).wf = true) (ht : (Lit.int .i64 t).wf = true) (nm : ByteArray) : (keyQ addr id nm t).Good := ⟨ha, hi, fold_size _, ht⟩
theorem mk_inj {a b : Bytes} (h : mkB a = mkB b) : a = b := by
  have := congrArg B h
  rwa [B_mk, B_mk] at this
theorem fits_eq {x : S35} (h : OkA x) (addr id : Int) (nq : ByteArray) (t cl : Int) : fitsQ addr id nq t cl x = (decide (cl = 1) && isK (keyQ addr id nq t) x) := by
  have hm : (nm (B x.f5.f0)).isSome = true := h.2.2.2.2.1
  obtain ⟨ls, hls⟩ := Option.isSome_iff_exists.1 hm
  have hs : sameS (B x.f5.f0) (B nq) = true ↔ mkB (fold (B x.f5.f0)) = mkB (fold (B nq)) := by
    cases hn : nm (B nq) with
    | none =>
      rw [sameS_right hn, fold_none hn]
      exact ⟨fun h => absurd h (by simp), fun h => absurd (mk_inj h) (fold_ne_nil hls)⟩
    | some ms =>
      rw [sameS_some hls hn, decide_eq_true_eq, ← fold_inj hls hn]
      exact ⟨fun h => by rw [h], mk_inj⟩
  rw [Bool.eq_iff_iff]
  unfold fitsQ
  simp only [Bool.and_eq_true, beq_iff_eq, decide_eq_true_eq, isK_true]
  rw [hs]
  unfold keyA keyQ
  constructor
  · rintro ⟨h1, h2, h3, h4, h5⟩
    exact ⟨h3, by rw [h1, h2, h4, h5]⟩
  · rintro ⟨h3, e⟩
    injection e with e1 e2 e3 e4
    exact ⟨e1, e2, h3, e4, e3⟩
/-- What Add answers, and what is held then. -/
noncomputable def addRes (most : Int) (xs : List S35) (x : S35) : Int × List S35 := open Classical in if OkA x then (if (xs.length : Int) < most then (0, xs ++ [x]) else (1901, xs)) else (1900, xs)
/-- What Take answers, and what is held then. -/
def takeRes (p : S35 → Bool) : List S35 → S35 × Int × List S35
  | [] => (z35, 1902, [])
  | x :: r => if p x = true then (x, 0, r) else ((takeRes p r).1, (takeRes p r).2.1, x :: (takeRes p r).2.2)
theorem take_no {p : S35 → Bool} : ∀ {xs : List S35}, (∀ x ∈ xs, p x = false) → takeRes p xs = (z35, 1902, xs)
  | [], _ => rfl
  | x :: r, h => by
    unfold takeRes
    rw [if_neg (by rw [h x List.mem_cons_self]; simp), take_no (fun y hy => h y (List.mem_cons_of_mem _ hy))]
theorem take_yes {p : S35 → Bool} : ∀ {xs : List S35} (j : Nat) (hj : j < xs.length), p xs[j] = true → (∀ i (hi : i < j), p (xs[i]'(Nat.lt_trans hi hj)) = false) → takeRes p xs = (xs[j], 0, xs.eraseIdx j)
  | x :: r, 0, _, h, _ => by
    unfold takeRes
    rw [if_pos (show p x = true from h)]
    rfl
  | x :: r, j + 1, hj, h, hlo => by
    have h0 : p x = false := hlo 0 (Nat.succ_pos _)
    unfold takeRes
    rw [if_neg (by rw [h0]; simp), take_yes j (Nat.lt_of_succ_lt_succ hj) h (fun i hi => hlo (i + 1) (Nat.succ_lt_succ hi))]
    rfl
theorem take_dec (p : S35 → Bool) : ∀ xs : List S35, (∀ x ∈ xs, p x = false) ∨ ∃ (j : Nat) (hj : j < xs.length), p xs[j] = true ∧ ∀ i (hi : i < j), p (xs[i]'(Nat.lt_trans hi hj)) = false
  | [] => .inl (fun x hx => by cases hx)
  | x :: r => by
    cases hx : p x
    · rcases take_dec p r with h | ⟨j, hj, h1, h2⟩
      · exact .inl (fun y hy => by rcases List.mem_cons.1 hy with rfl | hy; exact hx; exact h y hy)
      · exact .inr ⟨j + 1, Nat.succ_lt_succ hj, h1, fun i hi => by
          cases i with
          | zero => exact hx
          | succ i => exact h2 i (Nat.lt_of_succ_lt_succ hi)⟩
    · exact .inr ⟨0, Nat.succ_pos _, hx, fun i hi => absurd hi (Nat.not_lt_zero _)⟩
theorem take_mem {p : S35 → Bool} : ∀ {xs : List S35} {x : S35}, x ∈ (takeRes p xs).2.2 → x ∈ xs
  | [], x, h => h
  | y :: r, x, h => by
    unfold takeRes at h
    split at h
    · exact List.mem_cons_of_mem _ h
    · rcases List.mem_cons.1 h with rfl | h
      · exact List.mem_cons_self
      · exact List.mem_cons_of_mem _ (take_mem h)
theorem take_len {p : S35 → Bool} : ∀ (xs : List S35), (takeRes p xs).2.2.length ≤ xs.length
  | [] => Nat.le_refl _
  | y :: r => by
    unfold takeRes
    split
    · simp
    · simp only [List.length_cons]
      have := take_len (p := p) r
      omega
theorem Same_ev_l (xs : List S35) : ∀ (d : Nat) (i : Nat), i + d = xs.length → xs.length ≤ 1000 → Ev (fun k => wimplelaw0_SameAskeds.l0 k xs xs (i : Int)) true
  | 0, i, h, hb => by
    exact Ev.step (fun _ => rfl) (Ev.neg (by omega) (Ev.pure _))
  | d + 1, i, h, hb => by
    refine Ev.step (fun _ => rfl) (Ev.pos (by omega) (Ev.pos (by omega) (Ev.pos (by omega) (Ev.neg (by simp) ?_))))
    rw [show wrap64 ((i : Int) + 1) = ((i + 1 : Nat) : Int) from IntWalk.wrap64_in _ (by omega)]
    exact Same_ev_l xs d (i + 1) (by omega) hb
theorem Same_ev_refl (xs : List S35) (h : xs.length ≤ 1000) : Ev (fun k => wimplelaw0_SameAskeds.f k xs xs) true := by
  unfold wimplelaw0_SameAskeds.f
  exact Ev.pos rfl (Same_ev_l xs xs.length 0 (by omega) h)
theorem same_calls {w : World} {xs : List S35} {u1 u2 : Value} {b1 b2 : Nat} {o1 o2 : Nat → Prop} (h1 : Kd.R k35 35 w b1 o1 u1 xs) (h2 : Kd.R k35 35 w b2 o2 u2 xs) (h : xs.length ≤ 1000) : Calls Try.prog 17 #[u1, u2] w fun e w' => e = .returned (.bool true) ∧ Below w.heap.size w w' := by
  obtain ⟨A1, c1, rfl, hl1, hC1⟩ := Kd.R_reads h1
  obtain ⟨A2, c2, rfl, hl2, hC2⟩ := Kd.R_reads h2
  obtain ⟨k, hk⟩ := Ev.rounds (Same_ev_refl xs h)
  refine (wimplelaw0_SameAskeds.calls k A1 c1 xs A2 c2 xs true w hC1 hl1 hC2 hl2 hk).mono ?_
  rintro e w' ⟨rfl, ⟨nd, rfl⟩⟩
  exact ⟨rfl, pw_below_drewN (Below.refl _ _) _⟩
end Go.Proofs.Ytojjkgnkdcekpaa.M
