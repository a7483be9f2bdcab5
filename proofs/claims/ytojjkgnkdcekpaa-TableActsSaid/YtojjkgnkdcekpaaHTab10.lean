/- A table whose map counts what it holds. -/
import Derived.Test.YtojjkgnkdcekpaaHTab9
import Derived.Test.YtojjkgnkdcekpaaPx5
set_option linter.unusedVariables false
set_option linter.unusedSimpArgs false
namespace Go.Proofs.Ytojjkgnkdcekpaa.M
open Go Go.RowKit Go.ChangeMaps Go.Proofs.YtojjkgnkdcekpaaW.PrintWords Go.Proofs.YtojjkgnkdcekpaaW.PrintLast Go.Proofs.YtojjkgnkdcekpaaW.PrintMore Go.Proofs.Ytojjkgnkdcekpaa.P

noncomputable def cntA (xs : List S35) : K66 → Int := fun k => ((xs.filter (isK k)).length : Nat)
theorem cnt_nil : cntA [] = fun _ => 0 := by funext k; simp [cntA]
theorem cnt_cons (x : S35) (r : List S35) (k : K66) : cntA (x :: r) k = (if isK k x = true then 1 else 0) + cntA r k := by
  unfold cntA
  rw [List.filter_cons]
  by_cases h : isK k x = true
  · rw [if_pos h, if_pos h, List.length_cons]; omega
  · rw [if_neg h, if_neg h]; omega
theorem isK_self (x : S35) : isK (keyA x) x = true := isK_true.2 rfl
theorem isK_not {k : K66} {x : S35} (h : k ≠ keyA x) : ¬ isK k x = true := fun e => h (isK_true.1 e).symm
theorem cnt_append (a b : List S35) (k : K66) : cntA (a ++ b) k = cntA a k + cntA b k := by
  unfold cntA
  rw [List.filter_append, List.length_append]
  omega
theorem cnt_snoc (xs : List S35) (x : S35) : upd (cntA xs) (keyA x) (cntA xs (keyA x) + 1) = cntA (xs ++ [x]) := by
  funext k
  rw [cnt_append, cnt_cons]
  by_cases h : k = keyA x
  · subst h; rw [upd_same, if_pos (isK_self x)]; simp [cntA]
  · rw [upd_other _ h, if_neg (isK_not h)]; simp [cntA]
theorem cnt_erase : ∀ (xs : List S35) (j : Nat) (hj : j < xs.length) (k : K66), cntA (xs.eraseIdx j) k = cntA xs k - (if isK k xs[j] = true then 1 else 0)
  | x :: r, 0, hj, k => by
    rw [List.eraseIdx_zero, List.tail_cons, cnt_cons, List.getElem_cons_zero]
    omega
  | x :: r, j + 1, hj, k => by
    rw [List.eraseIdx_cons_succ, cnt_cons, cnt_cons, cnt_erase r j (by simpa using hj) k, List.getElem_cons_succ]
    omega
theorem cnt_taken (xs : List S35) (j : Nat) (hj : j < xs.length) (k : K66) (h : isK k xs[j] = true) : upd (cntA xs) k (cntA xs k - 1) = cntA (xs.eraseIdx j) := by
  funext y
  rw [cnt_erase xs j hj y]
  by_cases e : y = k
  · subst e; rw [upd_same, if_pos h]
  · rw [upd_other _ e, if_neg (fun h2 => e ((isK_true.1 h2).symm.trans (isK_true.1 h)))]; omega
theorem decd_cnt : ∀ (l : List S35) (f : K66 → Int) (k : K66), decd f l k = f k - cntA l k
  | [], f, k => by simp [decd, cntA]
  | x :: r, f, k => by
    have h3 : decd f (x :: r) = decd (upd f (keyA x) (f (keyA x) - 1)) r := rfl
    rw [h3, decd_cnt r, cnt_cons]
    by_cases e : k = keyA x
    · subst e; rw [upd_same, if_pos (isK_self x)]; omega
    · rw [upd_other _ e, if_neg (isK_not e)]; omega
theorem cnt_split (now : Int) (k : K66) : ∀ xs : List S35, cntA xs k = cntA (xs.filter (isDue now)) k + cntA (xs.filter (notDue now)) k
  | [] => by simp [cntA]
  | x :: r => by
    have ih := cnt_split now k r
    cases h : isDue now x
    · rw [List.filter_cons_of_neg (by rw [h]; simp), List.filter_cons_of_pos (by unfold notDue; rw [h]; rfl), cnt_cons, cnt_cons, ih]
      omega
    · rw [List.filter_cons_of_pos h, List.filter_cons_of_neg (by unfold notDue; rw [h]; simp), cnt_cons, cnt_cons, ih]
      omega
theorem cnt_due (now : Int) (xs : List S35) : decd (cntA xs) (xs.filter (isDue now)) = cntA (xs.filter (notDue now)) := by
  funext k
  rw [decd_cnt, cnt_split now k xs]
  omega
theorem cnt_range (xs : List S35) (k : K66) : 0 ≤ cntA xs k ∧ cntA xs k ≤ xs.length := by
  unfold cntA
  have := List.length_filter_le (isK k) xs
  omega
theorem cnt_pos {xs : List S35} {k : K66} {j : Nat} (hj : j < xs.length) (h : isK k xs[j] = true) : cntA xs k ≠ 0 := by
  unfold cntA
  have : 0 < (xs.filter (isK k)).length := List.length_pos_of_mem (List.mem_filter.2 ⟨List.getElem_mem hj, h⟩)
  omega
theorem cnt_zero {xs : List S35} {k : K66} (h : ∀ x ∈ xs, isK k x = false) : cntA xs k = 0 := by
  unfold cntA
  rw [List.filter_eq_nil_iff.2 (fun x hx => by rw [h x hx]; simp)]
  rfl
section
variable {w w' : World} {base b : Nat} {S S' : Nat → Prop} {g : Nat} {most : Int} {xs : List S35} {n : Nat} {v : Value} {m : Nat}
theorem newC (w : World) (most : Int) (h : 1 ≤ most ∧ most ≤ 16) (S : Nat → Prop) (hS : ∀ k, w.heap.size ≤ k → S k) : Calls Try.prog 8 #[.int .i64 most] w fun e w' => (∃ g m, e = .returned (.tuple #[.pointer (some ⟨g, 0, none⟩), .int .i64 0]) ∧ TabAt w' w.heap.size S g most [] 0 (cntA []) (.slice none 0 0) m) ∧ Below w.heap.size w w' := by
  refine (New_good w most h S hS).mono ?_
  rintro e w' ⟨⟨g, m, h1, h2⟩, hb⟩
  exact ⟨⟨g, m, h1, by rw [cnt_nil]; exact h2⟩, hb⟩
theorem addC (h : TabAt w base S g most xs n (cntA xs) v m) (x : S35) (hx : OkA x) (hk : (keyA x).Good) (hd : ((xs.length : Nat) : Int) < most) (hd2 : xs.length ≤ 1000) (hn : n ≤ 100000) (hS : ∀ k, w.heap.size ≤ k → S k) : Calls Try.prog 12 #[.pointer (some ⟨g, 0, none⟩), v35 x] w fun e w' => e = .returned (.int .i64 0) ∧ (∃ v', TabAt w' base S g most (xs ++ [x]) (n + 1) (cntA (xs ++ [x])) v' m) ∧ Below base w w' ∧ Kept w w' S := by
  refine (Add_good h x hx hk hd (by omega) (by omega) (by have := cnt_range xs (keyA x); omega) hS).mono ?_
  rintro e w' ⟨h1, ⟨v', h2⟩, h3, h4⟩
  rw [cnt_snoc] at h2
  exact ⟨h1, ⟨v', h2⟩, h3, h4⟩
theorem takeC (h : TabAt w base S g most xs n (cntA xs) v m) (hn : n ≤ 100000) (hl : xs.length ≤ 1000) (hS : ∀ k, w.heap.size ≤ k → S k) (addr id : Int) (nm : ByteArray) (t : Int) (hk : (keyQ addr id nm t).Good) (j : Nat) (hj : j < xs.length) (hi : isK (keyQ addr id nm t) xs[j] = true) (hlo : ∀ i (hi : i < j), isK (keyQ addr id nm t) (xs[i]'(Nat.lt_trans hi hj)) = false) : Calls Try.prog 14 #[.pointer (some ⟨g, 0, none⟩), .int .i64 addr, .int .i64 id, .agg #[.string nm, .int .i64 t, .int .i64 1]] w fun e w' => e = .returned (.tuple #[v35 xs[j], .int .i64 0]) ∧ (∃ v', TabAt w' base S g most (xs.eraseIdx j) (n + 1) (cntA (xs.eraseIdx j)) v' m) ∧ Below base w w' ∧ Kept w w' S := by
  refine (Take_some0 h.bound (by omega) (by omega) (fun k hk => hk.2) addr id nm t hk (cnt_pos hj hi) (by have := cnt_range xs (keyQ addr id nm t); omega) j hj hi hlo).mono ?_
  rintro e w' ⟨h1, ⟨v', h2⟩, h3, h4⟩
  rw [cnt_taken xs j hj _ hi] at h2
  exact ⟨h1, ⟨v', h2.mono (fun k hk => by rcases hk with hk | hk; exact hk.1; exact hS k hk)⟩, h3, h4.mono (fun k hk => hk.1)⟩
theorem takeN (h : TabAt w base S g most xs n (cntA xs) v m) (addr id : Int) (nm : ByteArray) (t cl : Int) (hk : (keyQ addr id nm t).Good) (hq : cl ≠ 1 ∨ ∀ x ∈ xs, isK (keyQ addr id nm t) x = false) : Calls Try.prog 14 #[.pointer (some ⟨g, 0, none⟩), .int .i64 addr, .int .i64 id, .agg #[.string nm, .int .i64 t, .int .i64 cl]] w fun e w' => e = .returned (.tuple #[v35 z35, .int .i64 1902]) ∧ Below w.heap.size w w' :=
  Take_none h addr id nm t cl hk (hq.imp (fun h => h) (fun h => cnt_zero h))
theorem dueC (h : TabAt w base S g most xs n (cntA xs) v m) (hn : n ≤ 100000) (hl : xs.length ≤ 1000) (hS : ∀ k, w.heap.size ≤ k → S k) (hg : ∀ x ∈ xs, (keyA x).Good) (now : Int) : Calls Try.prog 16 #[.pointer (some ⟨g, 0, none⟩), .int .i64 now] w fun e w' => ∃ uo v', e = .returned uo ∧ Kd.R k35 35 w' w.heap.size (fun _ => True) uo (xs.filter (isDue now)) ∧ TabAt w' base (fun k => S k ∧ uo.ownBlock ≠ some k) g most (xs.filter (notDue now)) (n + xs.length) (cntA (xs.filter (notDue now))) v' m ∧ Below base w w' ∧ Kept w w' S := by
  refine (Due_calls h.bound hn hl (fun k hk => hk.2) hg (fun k => by have := cnt_range xs k; omega) now).mono ?_
  rintro e w' ⟨uo, v', h1, h2, h3, h4, h5⟩
  rw [cnt_due] at h3
  exact ⟨uo, v', h1, h2, h3.mono (fun k hk => ⟨by rcases hk.1 with h | h; exact h.1; exact hS k h, hk.2⟩), h4, h5.mono (fun k hk => hk.1)⟩
end
/-- What the law asks. -/
def akd (job id addr unt : Int) : S35 := ⟨job, id, addr, ⟨#[0]⟩, ⟨#[1, 97, 0]⟩, ⟨⟨#[1, 97, 0]⟩, 1⟩, unt⟩
theorem nm_a : nm [1, 97, 0] = some [[97]] := nm_wire (ls := [[97]]) (by intro l hl; simp at hl; subst hl; decide) (by decide)
theorem nm_A : nm [1, 65, 0] = some [[65]] := nm_wire (ls := [[65]]) (by intro l hl; simp at hl; subst hl; decide) (by decide)
theorem nm_b : nm [1, 98, 0] = some [[98]] := nm_wire (ls := [[98]]) (by intro l hl; simp at hl; subst hl; decide) (by decide)
theorem fold_a : mkB (fold (B ⟨#[1, 97, 0]⟩)) = ⟨#[1, 97, 0]⟩ := by
  rw [show B ⟨#[1, 97, 0]⟩ = [1, 97, 0] from rfl, fold_some nm_a]; rfl
theorem fold_A : mkB (fold (B ⟨#[1, 65, 0]⟩)) = ⟨#[1, 97, 0]⟩ := by
  rw [show B ⟨#[1, 65, 0]⟩ = [1, 65, 0] from rfl, fold_some nm_A]; rfl
theorem fold_b : mkB (fold (B ⟨#[1, 98, 0]⟩)) = ⟨#[1, 98, 0]⟩ := by
  rw [show B ⟨#[1, 98, 0]⟩ = [1, 98, 0] from rfl, fold_some nm_b]; rfl
def KA (addr id : Int) : K66 := ⟨addr, id, ⟨#[1, 97, 0]⟩, 1⟩
theorem key_akd (job id addr unt : Int) : keyA (akd job id addr unt) = KA addr id := by
  unfold keyA akd KA
  simp only [fold_a]
theorem keyQ_a (addr id : Int) : keyQ addr id ⟨#[1, 97, 0]⟩ 1 = KA addr id := by unfold keyQ KA; rw [fold_a]
theorem keyQ_A (addr id : Int) : keyQ addr id ⟨#[1, 65, 0]⟩ 1 = KA addr id := by unfold keyQ KA; rw [fold_A]
theorem KA_good (addr id : Int) (h1 : -9223372036854775808 ≤ addr ∧ addr ≤ 9223372036854775807) (h2 : -9223372036854775808 ≤ id ∧ id ≤ 9223372036854775807) : (KA addr id).Good := ⟨wf_small _ h1, wf_small _ h2, show (⟨#[1, 97, 0]⟩ : ByteArray).size ≤ maxLen from by decide, wf_small 1 (by omega)⟩
theorem akd_ok (job id addr unt : Int) (h1 : 0 ≤ id ∧ id ≤ 65535) (h2 : 0 ≤ addr ∧ addr ≤ 4294967295) : OkA (akd job id addr unt) := by
  refine ⟨by show ¬ id < 0; omega, by show ¬ id > 65535; omega, by show ¬ addr < 0; omega, by show ¬ addr > 4294967295; omega, ?_, by show ¬ (1 : Int) < 1; omega, by show ¬ (1 : Int) > 65535; omega⟩
  show (nm [1, 97, 0]).isSome = true
  rw [nm_a]; rfl
theorem asked_calls (job id addr unt : Int) (w : World) : Calls Try.prog 22 #[.int .i64 job, .int .i64 id, .int .i64 addr, .int .i64 unt] w fun e w' => e = .returned (v35 (akd job id addr unt)) ∧ Below w.heap.size w w' :=
  wimplelaw19_asked.calls job id addr unt _ _ _ _ _ _ _ _ w rfl
end Go.Proofs.Ytojjkgnkdcekpaa.M
