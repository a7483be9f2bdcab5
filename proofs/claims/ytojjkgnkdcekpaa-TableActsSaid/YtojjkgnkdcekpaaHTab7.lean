/- slices.Delete of one. -/
import Derived.Test.YtojjkgnkdcekpaaHTab6
set_option linter.unusedVariables false
set_option linter.unusedSimpArgs false
namespace Go.Proofs.Ytojjkgnkdcekpaa.M
open Go Go.RowKit Go.ChangeMaps Go.Proofs.YtojjkgnkdcekpaaW.PrintWords Go.Proofs.YtojjkgnkdcekpaaW.PrintLast Go.Proofs.YtojjkgnkdcekpaaW.PrintMore Go.Proofs.Ytojjkgnkdcekpaa.P

theorem step_R_delete {P : Program} {ops : Array Oper} {o : Oper} {a : Act} {Q : Exit → Act → World → Prop} {Kc : Act → World → Prop} {E : Prop} {α : Type} (d : Kd α) {w0 W : World} (base : Nat) (hgd : o.guard = none) (s x : Operand) (t e : TypeId)
    (ho : o.op = .call { callee := .builtin .append, args := #[s, x], argTypes := #[t, t] })
    (ht : P.underlying t = some (.slice e)) (hinfo : (P.info? e).map (·.size) = some d.sz) {g n c k m c2 : Nat} {A : Option Addr} {xs : List α} {ok : Nat → Prop}
    (hs : a.eval s = .slice (some ⟨g, 0, none⟩) k c) (hx : a.eval x = .slice A m c2) (hA : A = if c = k + 1 then some ⟨g, 0, none⟩ else (some (⟨g, 0, none⟩ : Addr)).map (·.add ((k + 1) * d.sz))) (hm : m = n - (k + 1))
    (HO : d.R e W base ok (.slice (some ⟨g, 0, none⟩) n c) xs) (hk : k < n) (HB : Below base w0 W) (hbase : base ≤ W.heap.size)
    (h : ∀ w1, d.R e w1 base ok (.slice (some ⟨g, 0, none⟩) (n - 1) c) (xs.eraseIdx k) → Below base w0 w1 → W.grownBy w1 (some g) → Kc (a.put o.dst (.slice (some ⟨g, 0, none⟩) (n - 1) c)) w1) :
    if Region.wanted o (yielded ops a.tmps) = true then Oper.wp P o a W Kc Q else E := by
  have hw : Region.wanted o (yielded ops a.tmps) = true := by simp [Region.wanted, hgd]
  have := Kd.R_delete_step (ops := ops) (Q := Q) d base hw s x t e ho ht hinfo hs hx hA hm HO hk HB hbase h
  rw [if_pos hw] at this ⊢
  exact this
theorem elem46 : Try.prog.elem 46 = 35 := by simp [Program.elem, Try.underlying46]
theorem under46 : Try.prog.underlying 46 = some (.slice (Try.prog.elem 46)) := by rw [elem46]; exact Try.underlying46
theorem size35 (W : World) : (sizeOf 35).run Try.prog W = .ok 8 W := by
  obtain ⟨i, hi, hz, hsz, hb⟩ := info_parts info35
  simp [sizeOf, typeInfo, hi, hsz]
theorem add0 (q j : Nat) : (⟨q, 0, none⟩ : Addr).add j = ⟨q, j, none⟩ := by unfold Addr.add; split <;> simp_all
theorem cut_h (W : World) (q n c : Nat) (h : Nat) (h2 : h ≤ c) : (Instr.slice 46 (.slice (some ⟨q, 0, none⟩) n c) none (some (.int .i64 (h : Int))) none).run Try.prog W = .ok (.slice (some ⟨q, 0, none⟩) h c) W := by
  rw [run_slice_h W 46 (some ⟨q, 0, none⟩) n c under46 .i64 _ (by omega) (by omega), elem46, size35]
  simp [sliced, Result.andThen, add0]
theorem cut_l (W : World) (q n c : Nat) (l : Nat) (h1 : l ≤ n) (h2 : l < c) : (Instr.slice 46 (.slice (some ⟨q, 0, none⟩) n c) (some (.int .i64 (l : Int))) none none).run Try.prog W = .ok (.slice (some ⟨q, l * 8, none⟩) (n - l) (c - l)) W := by
  rw [run_slice_l W 46 (some ⟨q, 0, none⟩) n c under46 .i64 _ (by omega) (by omega), elem46, size35]
  simp [sliced, Result.andThen, add0, show c ≠ l from by omega]
theorem cut_l' (W : World) (q n c : Nat) (l : Nat) (h1 : l ≤ n) : (Instr.slice 46 (.slice (some ⟨q, 0, none⟩) n c) (some (.int .i64 (l : Int))) none none).run Try.prog W = .ok (.slice (if c = l then some ⟨q, 0, none⟩ else (some (⟨q, 0, none⟩ : Addr)).map (·.add (l * 8))) (n - l) (c - l)) W := by
  rw [run_slice_l W 46 (some ⟨q, 0, none⟩) n c under46 .i64 _ (by omega) (by omega), elem46, size35]
  simp [sliced, Result.andThen]
theorem cut_lh (W : World) (q n c : Nat) (l h : Nat) (h0 : l ≤ h) (h1 : h ≤ c) (h2 : l < c) : (Instr.slice 46 (.slice (some ⟨q, 0, none⟩) n c) (some (.int .i64 (l : Int))) (some (.int .i64 (h : Int))) none).run Try.prog W = .ok (.slice (some ⟨q, l * 8, none⟩) (h - l) (c - l)) W := by
  rw [run_slice_lh W 46 (some ⟨q, 0, none⟩) n c under46 .i64 .i64 _ _ (by omega) (by omega) (by omega), elem46, size35]
  simp [sliced, Result.andThen, add0, show c ≠ l from by omega]
theorem cut_lhm (W : World) (q n c : Nat) (l h m : Nat) (h0 : l ≤ h) (h1 : h ≤ m) (h2 : m ≤ c) (h3 : l < m) : (Instr.slice 46 (.slice (some ⟨q, 0, none⟩) n c) (some (.int .i64 (l : Int))) (some (.int .i64 (h : Int))) (some (.int .i64 (m : Int)))).run Try.prog W = .ok (.slice (some ⟨q, l * 8, none⟩) (h - l) (m - l)) W := by
  rw [run_slice_lhm W 46 (some ⟨q, 0, none⟩) n c under46 .i64 .i64 .i64 _ _ _ (by omega) (by omega) (by omega) (by omega), elem46, size35]
  simp [sliced, Result.andThen, add0, show m ≠ l from by omega]
def zs35 : List Value := [.int .i64 0, .int .i64 0, .int .i64 0, .string ⟨#[]⟩, .string ⟨#[]⟩, .string ⟨#[]⟩, .int .i64 0, .int .i64 0]
/-- What lies behind a row's end is cleared: the row stays. -/
theorem R_cleared {w : World} {base : Nat} {S : Nat → Prop} {q n c : Nat} {xs : List S35} (h : Kd.R k35 35 w base S (.slice (some ⟨q, 0, none⟩) n c) xs) (hn : n < c) (ty : TypeId) (c' : Nat) : ∃ w', (Builtin.clear_ #[46] ty #[.slice (some ⟨q, n * 8, none⟩) 1 c']).run Try.prog w = .ok (.tuple #[]) w' ∧ Kd.R k35 35 w' base S (.slice (some ⟨q, 0, none⟩) n c) xs ∧ w.grownBy w' (some q) := by
  obtain ⟨hok, inner, ho, hr⟩ := h
  obtain ⟨hl, ⟨h1, _⟩ | ⟨q', c1, cur, hv, hb, hh, hnc, hcm, hsz, htk⟩⟩ := ho
  · cases h1
  injection hv with hv1 hv2 hv3
  injection hv1 with hv1
  injection hv1 with hv1
  subst hv1 hv2 hv3
  have hsz8 : cur.size = c * 8 := hsz
  have hz : (zeroValue 35).run Try.prog w = .ok (.agg #[.int .i64 0, .int .i64 0, .int .i64 0, .string ⟨#[]⟩, .string ⟨#[]⟩, .string ⟨#[]⟩, .int .i64 0, .int .i64 0]) w := by
    obtain ⟨i, hi, hz, hsz, hb⟩ := info_parts info35
    simp [zeroValue, typeInfo, hi, hz]
  have hst := run_storeCells_at (P := Try.prog) q (xs.length * 8) 35 zs35 0 cur w hh (by simp [zs35]; omega) (by decide)
  have hcl : (Builtin.clear_ #[46] ty #[.slice (some ⟨q, xs.length * 8, none⟩) 1 c']).run Try.prog w = .ok (.tuple #[]) (w.setRow q (cur.toList.take (xs.length * 8 + 0) ++ zs35 ++ cur.toList.drop (xs.length * 8 + 0 + zs35.length)).toArray) := by
    have hzc : (Builtin.zeroCells (Value.agg #[.int .i64 0, .int .i64 0, .int .i64 0, .string ⟨#[]⟩, .string ⟨#[]⟩, .string ⟨#[]⟩, .int .i64 0, .int .i64 0]).cells 1).toList = zs35 := by kernel_rfl
    simp [Builtin.clear_, run_underlying Try.underlying46, hz, hzc, hst]
  have hz8 : zs35.length = 8 := rfl
  refine ⟨_, hcl, ⟨hok, inner, ⟨hl, .inr ⟨q, c, _, rfl, hb, setRow_heap w q cur _ 35 (0, 0) hh, hnc, hcm, ?_, ?_⟩⟩, hr.imp_ (fun x cs hx => by obtain rfl := k35_openM hx; exact k35_mkM _ _ _ x)⟩, ⟨rfl, rfl, rfl, by simp, fun k hk hne => setRow_other w q k _ (fun e => hne (by rw [e]))⟩⟩
  · rw [show k35.sz = 8 from rfl]
    simp only [List.size_toArray, List.length_append, List.length_take, List.length_drop, hz8, Array.length_toList]
    omega
  · rw [show k35.sz = 8 from rfl] at htk ⊢
    rw [← htk]
    simp only [Nat.add_zero, List.append_assoc]
    have hcs : xs.length * 8 ≤ cur.toList.length := by
      have h1 : cur.toList.length = cur.size := Array.length_toList
      rw [h1, hsz8]
      omega
    rw [List.take_append_of_le_length (by rw [List.length_take]; omega), List.take_take, Nat.min_self]
set_option maxHeartbeats 4000000 in
set_option maxRecDepth 100000 in
theorem Delete_calls (w : World) (base : Nat) (S : Nat → Prop) (q c i : Nat) (xs : List S35) (h : Kd.R k35 35 w base S (.slice (some ⟨q, 0, none⟩) xs.length c) xs) (hi : i < xs.length) (hl : xs.length ≤ 1000000) : Calls Try.prog 30 #[.slice (some ⟨q, 0, none⟩) xs.length c, .int .i64 (i : Int), .int .i64 ((i : Int) + 1)] w fun e w' => e = .returned (.slice (some ⟨q, 0, none⟩) (xs.length - 1) c) ∧ Kd.R k35 35 w' base S (.slice (some ⟨q, 0, none⟩) (xs.length - 1) c) (xs.eraseIdx i) ∧ w.grownBy w' (some q) := by
  have hnc : xs.length ≤ c := (Kd.R_reads' h).2.1
  have H := Aside0.mk h
  clear h
  have e1 : ∀ W : World, (Instr.slice 46 (.slice (some ⟨q, 0, none⟩) xs.length c) (some (.int .i64 (i : Int))) (some (.int .i64 ((i : Int) + 1))) (some (.int .i64 (xs.length : Int)))).run Try.prog W = .ok (.slice (some ⟨q, i * 8, none⟩) (i + 1 - i) (xs.length - i)) W := fun W => by
    have := cut_lhm W q xs.length c i (i + 1) xs.length (by omega) (by omega) hnc (by omega)
    rwa [show ((i + 1 : Nat) : Int) = (i : Int) + 1 from by omega] at this
  have e2 : ∀ W : World, (Instr.slice 46 (.slice (some ⟨q, 0, none⟩) xs.length c) none (some (.int .i64 (i : Int))) none).run Try.prog W = .ok (.slice (some ⟨q, 0, none⟩) i c) W := fun W => cut_h W q xs.length c i (by omega)
  have e3 : ∀ W : World, (Instr.slice 46 (.slice (some ⟨q, 0, none⟩) xs.length c) (some (.int .i64 ((i : Int) + 1))) none none).run Try.prog W = .ok (.slice (if c = i + 1 then some ⟨q, 0, none⟩ else (some (⟨q, 0, none⟩ : Addr)).map (·.add ((i + 1) * 8))) (xs.length - (i + 1)) (c - (i + 1))) W := fun W => by
    have := cut_l' W q xs.length c (i + 1) (by omega)
    rwa [show ((i + 1 : Nat) : Int) = (i : Int) + 1 from by omega] at this
  have e4 : ((i : Int) == (i : Int) + 1) = false := beq_eq_false_iff_ne.2 (by omega)
  have e5 : decide ((i : Int) = (i : Int) + 1) = false := decide_eq_false (by omega)
  obtain ⟨Z3, hZ3⟩ : ∃ Z, (if c = i + 1 then some ⟨q, 0, none⟩ else (some (⟨q, 0, none⟩ : Addr)).map (·.add ((i + 1) * 8))) = Z := ⟨_, rfl⟩
  simp only [hZ3] at e3
  have HZ3 := Aside0.mk hZ3
  clear hZ3
  go_enter Try.func30, Try.ntmps30
  go_wp2_with fail
  have e7 : ∀ W : World, (Instr.slice 46 (.slice (some ⟨q, 0, none⟩) (xs.length - 1) c) (some (.int .i64 ((xs.length - 1 : Nat) : Int))) (some (.int .i64 (xs.length : Int))) none).run Try.prog W = .ok (.slice (some ⟨q, (xs.length - 1) * 8, none⟩) 1 (c - (xs.length - 1))) W := fun W => by
    have := cut_lh W q (xs.length - 1) c (xs.length - 1) xs.length (by omega) hnc (by omega)
    rwa [show xs.length - (xs.length - 1) = 1 from by omega] at this
  have LE : Aside0 ((xs.eraseIdx i).length = xs.length - 1) := ⟨by rw [List.length_eraseIdx]; simp [hi]⟩
  have IL := Aside0.mk hi
  have HBS : Aside0 (base ≤ w.heap.size) := ⟨Nat.le_trans (Kd.R_base H.out q rfl) (Nat.le_of_lt (Kd.R_lt H.out q rfl))⟩
  have CL : Aside0 (xs.length - 1 < c) := ⟨by omega⟩
  clear e1 hi
  go_region_law
    ((refine step_R_delete k35 (w0 := w.drew) (W := w.drew) base (by rfl) (.tmp 22) (.tmp 25) 46 35 (by rfl) Try.underlying46 (by rfl) (by rfl) (by rfl) HZ3.out.symm rfl (Kd.R_drew H.out) IL.out (Below.refl _ _) HBS.out ?_; intro w1 ho hb hg; have HO := Aside0.mk ho; have HG := Aside0.mk hg; clear ho hb hg))
  all_goals
    (try simp only [Exit.then])
    obtain ⟨w2, hcl, hR2, hg2⟩ := R_cleared (n := xs.length - 1) HO.out CL.out 0 (c - (xs.length - 1))
    have R2 := Aside0.mk hR2
    have G2 : Aside0 (w.grownBy w2 (some q)) := ⟨((grown_of_below (below_drew (Below.refl _ _)) (some q)).trans HG.out).trans hg2⟩
    clear hR2 hg2
    go_wp2_with fail
    go_ret
    exact ⟨rfl, R2.out, G2.out⟩
end Go.Proofs.Ytojjkgnkdcekpaa.M
