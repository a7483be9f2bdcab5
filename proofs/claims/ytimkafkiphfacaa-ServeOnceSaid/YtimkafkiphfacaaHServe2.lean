/- serve.Addrs: the map and the row. -/
import Derived.Test.YtimkafkiphfacaaHServe
import Derived.Maps.Own
import Derived.Maps.OwnSet
import Derived.Maps.Views
set_option linter.unusedVariables false
set_option linter.unusedSimpArgs false
namespace Go.Proofs.Ytimkafkiphfacaa.M
open Go Go.RowKit Go.ChangeMaps Go.Proofs.YtimkafkiphfacaaW.PrintWords Go.Proofs.YtimkafkiphfacaaW.PrintLast Go.Proofs.YtimkafkiphfacaaW.PrintMore Go.Proofs.Ytimkafkiphfacaa.P

def stepA (out : List Int) (b : S61) : List Int := if b.f2 ∈ out then out else out ++ [b.f2]
def addrsS (bs : List S61) : List Int := bs.foldl stepA []
theorem addrs_next {bs : List S61} {i : Nat} (h : i < bs.length) : addrsS (bs.take (i + 1)) = stepA (addrsS (bs.take i)) bs[i] := by
  unfold addrsS
  rw [List.take_succ_eq_append_getElem h, List.foldl_append]
  rfl
theorem step_le (out : List Int) (b : S61) : (stepA out b).length ≤ out.length + 1 := by
  unfold stepA
  split <;> simp
theorem addrs_le (bs : List S61) : ∀ i, i ≤ bs.length → (addrsS (bs.take i)).length ≤ i
  | 0, _ => by simp [addrsS]
  | i + 1, h => by
    rw [addrs_next (by omega)]
    have h1 := step_le (addrsS (bs.take i)) (bs[i]'(by omega))
    have h2 := addrs_le bs i (by omega)
    omega
/-- The map of what was seen. -/
def SeenAt (w : World) (m n : Nat) (out : List Int) : Prop := ∃ D : DataW Unit, w.ownsMap Try.prog 3 (plainElem Try.prog 4) m n D ∧ ∀ x, D.atKey (.int .i64 x) (.lit (.bool false)) = .lit (.bool (decide (x ∈ out)))
theorem plainElem_bool_inv {P : Program} {e : TypeId} (he : P.underlying e = some .bool) {v : Value} {z : DataW Unit × List MemPlace} (h : plainElem P e v = some z) : ∃ b, v = .bool b ∧ z = (.lit (.bool b), []) := by
  unfold plainElem at h
  rw [he] at h
  cases v <;> simp at h
  subst h
  exact ⟨_, rfl, rfl⟩
theorem Seen_look {w : World} {m n : Nat} {out : List Int} (h : SeenAt w m n out) (x : Int) (hx : (Lit.int .i64 x).wf = true) : (Instr.lookup 72 (.map (some m)) (.int .i64 x) false).run Try.prog w = .ok (.bool (decide (x ∈ out))) w := by
  obtain ⟨D, ho, hD⟩ := h
  obtain ⟨v, ps, hrun, hv⟩ := ho.lookup (t := 72) (e := 4) (Go.Maps.int_keyed Try.underlying3) Try.underlying72 (Try.zeroValue4 w) (plainElem_bool Try.underlying4 false) (Go.Maps.keyOf_int_mk Try.underlying3 hx)
  obtain ⟨b, rfl, hb⟩ := plainElem_bool_inv Try.underlying4 hv
  simp only [Prod.mk.injEq] at hb
  rw [hD] at hb
  have : decide (x ∈ out) = b := by injection hb.1 with h1; injection h1
  rw [this]
  exact hrun
theorem below_lower {b B : Nat} {w w' : World} (h : Below B w w') (hb : b ≤ B) : Below b w w' := ⟨h.os, h.tape, h.output, h.size, fun k hk => h.block k (Nat.lt_of_lt_of_le hk hb)⟩
theorem Seen_made (w : World) : SeenAt (w.alloc (.map #[] 0)) w.heap.size 0 [] := ⟨_, World.ownsMap_made w _ _ _, fun x => by
  rw [show (List.nil : List Int) = [] from rfl]
  have h := WideAt.atKey_none (entries := ([] : List (Lit × DataW Unit))) (k := .int .i64 x) (.lit (.bool false)) (fun p hp => by simp at hp)
  simpa using h⟩
theorem Seen_kept {w w' : World} {m n : Nat} {out : List Int} {row : Option Nat} (h : SeenAt w m n out) (hg : w.grownBy w' row) (hne : some m ≠ row) : SeenAt w' m n out := by
  obtain ⟨D, ho, hD⟩ := h
  exact ⟨D, ho.kept hg hne, hD⟩
theorem Seen_lt {w : World} {m n : Nat} {out : List Int} (h : SeenAt w m n out) : m < w.heap.size := by
  obtain ⟨D, ho, hD⟩ := h
  exact ho.lt
theorem Seen_mono {w : World} {m n n' : Nat} {out : List Int} (h : SeenAt w m n out) (hn : n ≤ n') : SeenAt w m n' out := by
  obtain ⟨D, ho, hD⟩ := h
  exact ⟨D, ho.mono hn, hD⟩
theorem Seen_put {D : DataW Unit} {out : List Int} (hm : Go.Maps.IsMap D) (hD : ∀ x, D.atKey (.int .i64 x) (.lit (.bool false)) = .lit (.bool (decide (x ∈ out)))) (a : Int) : ∀ x, (D.put (.int .i64 a) (.lit (.bool true))).atKey (.int .i64 x) (.lit (.bool false)) = .lit (.bool (decide (x ∈ out ++ [a]))) := by
  intro x
  by_cases e : x = a
  · subst e
    rw [Go.Maps.atKey_put_same hm (by simp [WideAt.IsKeyLit])]
    simp
  · rw [Go.Maps.atKey_put_other (by intro h; injection h with _ h; exact e h), hD]
    simp [e]

theorem Seen_store {w : World} {m n : Nat} {out : List Int} (h : SeenAt w m n out) (x : Int) (hx : (Lit.int .i64 x).wf = true) (hn : n ≤ 2199023255488) : ∃ w', (Instr.mapUpdate 72 (.map (some m)) (.int .i64 x) (.bool true)).run Try.prog w = .ok () w' ∧ SeenAt w' m (n + 1) (out ++ [x]) ∧ w.grownBy w' (some m) := by
  obtain ⟨D, ho, hD⟩ := h
  obtain ⟨w', h1, h2, h3⟩ := ho.update (t := 72) (e := 4) (Go.Maps.int_keyed Try.underlying3) Try.underlying72 (by unfold maxLen; omega) (Go.Maps.keyOf_int_mk Try.underlying3 hx) (plainElem_bool Try.underlying4 true)
  exact ⟨w', h1, ⟨_, h2, Seen_put (ho.isMap) hD x⟩, h3⟩
theorem int_info : (Try.prog.info? 3).map (fun i => (i.zero, i.size, i.bytes)) = some (some (.int .i64 0), 1, 8) := by kernel_rfl

set_option maxHeartbeats 4000000 in
set_option maxRecDepth 100000 in
theorem Addrs_calls (w : World) (A : Option Addr) (c : Nat) (bs : List S61) (hx : Kd.C k61 w A bs.length bs) (hc : bs.length ≤ c) (hl : bs.length ≤ 2199023255488) (hwf : ∀ b ∈ bs, (Lit.int .i64 b.f2).wf = true) : Calls Try.prog 23 #[.slice A bs.length c] w fun e w' => ∃ v, e = .returned v ∧ Kd.R (Kd.int .i64) 3 w' w.heap.size (fun _ => True) v (addrsS bs) ∧ Below w.heap.size w w' := by
  have H := Aside0.mk hx
  have HF := Aside0.mk hwf
  clear hx hwf
  have hmm := @run_makeMap Try.prog
  go_enter Try.func23, Try.ntmps23
  go_wp2_with fail
  generalize hW : w.alloc (.map #[] 0) = W
  have TW : Aside0 (Below w.heap.size w W) := ⟨by rw [← hW]; exact below_alloc (Below.refl w.heap.size w) _⟩
  have S0 : Aside0 (SeenAt W w.heap.size 0 []) := ⟨by rw [← hW]; exact Seen_made w⟩
  have WS : Aside0 (w.heap.size < W.heap.size) := ⟨by rw [← hW]; simp⟩
  clear hW hmm
  obtain ⟨m, hm⟩ : ∃ m, w.heap.size = m := ⟨_, rfl⟩
  have GM := Aside0.mk hm
  rw [hm] at S0 WS
  rw [hm]
  clear hm
  go_loopw [4, 10] (fun v4 v10 wr => ∃ i : Nat, i ≤ bs.length ∧ v10 = .int .i64 i ∧ Aside0 (Kd.R (Kd.int .i64) 3 wr W.heap.size (fun _ => True) v4 (addrsS (bs.take i))) ∧ Aside0 (SeenAt wr m i (addrsS (bs.take i))) ∧ Aside0 (Below m W wr)) (fun _ v10 _ => bs.length - (intOf v10).toNat)
  case atStart => exact ⟨0, Nat.zero_le _, rfl, ⟨Kd.R_nil _ _ _ _ _⟩, S0, ⟨Below.refl _ _⟩⟩
  case round =>
    obtain ⟨i, hi, rfl, HO, HS, HT⟩ := hrel
    by_cases hlt : i < bs.length
    · have hd1 : decide ((i : Int) < (bs.length : Int)) = true := decide_eq_true (by omega)
      have hd2 : decide (i < bs.length) = true := decide_eq_true hlt
      obtain ⟨ad, rfl, hc0, hc1, hc2, hc3, hc4⟩ := at_T61 (Kd.C_below H.out (TW.out.trans (by rw [GM.out]; exact HT.out))) (i : Int) (by omega) (by omega)
      rw [rd61 hlt] at hc0 hc1 hc2 hc3 hc4
      simp only [Int.toNat_natCast] at hc0 hc1 hc2 hc3 hc4
      obtain ⟨x, hx⟩ : ∃ x, bs[i] = x := ⟨_, rfl⟩
      have hwx : (Lit.int .i64 x.f2).wf = true := by rw [← hx]; exact HF.out _ (List.getElem_mem hlt)
      have HN : Aside0 (addrsS (bs.take (i + 1)) = stepA (addrsS (bs.take i)) x) := ⟨by rw [← hx]; exact addrs_next hlt⟩
      have HL : Aside0 ((addrsS (bs.take i)).length ≤ i) := ⟨addrs_le bs i hi⟩
      rw [hx] at hc0 hc1 hc2 hc3 hc4
      clear hx
      generalize addrsS (bs.take i) = out at *
      have hlk : ∀ o, (Instr.lookup 72 (.map (some m)) (.int .i64 x.f2) false).run Try.prog (wr.alloc o) = .ok (.bool (decide (x.f2 ∈ out))) (wr.alloc o) := fun o => Seen_look (Seen_kept HS.out (World.grownBy_alloc wr o none) (by simp)) x.f2 hwx
      by_cases hin : x.f2 ∈ out
      · rw [decide_eq_true hin] at hlk
        have HE : Aside0 (stepA out x = out) := ⟨by unfold stepA; rw [if_pos hin]⟩
        clear hin hwx
        go_wp2_with fail
        go_roundw
        case rel => exact ⟨i + 1, by omega, by go_num, by rw [HN.out, HE.out]; exact ⟨Kd.R_alloc HO.out _⟩, by rw [HN.out, HE.out]; exact ⟨Seen_mono (Seen_kept HS.out (World.grownBy_alloc wr _ none) (by simp)) (by omega)⟩, ⟨HT.out.alloc (by have := Seen_lt HS.out; omega) _⟩⟩
        case measure => simp [intOf]; omega
      · rw [decide_eq_false hin] at hlk
        have HE : Aside0 (stepA out x = out ++ [x.f2]) := ⟨by unfold stepA; rw [if_neg hin]⟩
        have HW2 := Aside0.mk hwx
        obtain ⟨w2, hup, hs2, hg2⟩ := Seen_store (Seen_kept HS.out (World.grownBy_alloc wr (.cells #[.string x.f0, .string x.f1, .int .i64 x.f2, .string x.f3, .int .i64 x.f4] 61) none) (by simp)) x.f2 hwx (by omega)
        have hne : wr.heap.size ≠ m := by have := Seen_lt HS.out; omega
        have hcb : w2.cell? ⟨wr.heap.size, 2, none⟩ = some (.int .i64 x.f2) := (blk_cell (blk_grown (blk_new wr (.cells #[.string x.f0, .string x.f1, .int .i64 x.f2, .string x.f3, .int .i64 x.f4] 61)) hg2 (fun e => hne (by injection e))) 2).trans rfl
        have O2 := Aside0.mk (Kd.R_grown (Kd.R_mono (Kd.R_bound (Kd.R_alloc HO.out (.cells #[.string x.f0, .string x.f1, .int .i64 x.f2, .string x.f3, .int .i64 x.f4] 61))) (fun k hk => hk.2.1)) hg2 (fun k hk e => by injection e with e; have := WS.out; omega))
        have S2 := Aside0.mk hs2
        have T2 : Aside0 (Below m W w2) := ⟨(HT.out.alloc (by have := Seen_lt HS.out; omega) _).grown hg2 (by have := Seen_lt HS.out; have := WS.out; simp; omega) (fun j hj => by cases hj; exact Nat.le_refl _)⟩
        have Z2 : Aside0 (W.heap.size ≤ w2.heap.size) := ⟨T2.out.size⟩
        have hl1 : out.length ≤ 2199023255488 := by have := HL.out; omega
        clear hin hwx hs2 hg2 hne HO HS
        go_wp2_with ((with_reducible refine gate_builtin (b := .append) (xs := #[.tmp 22, .tmp 25]) rfl ?_); at_builtin; refine Kd.R_append (Kd.int .i64) (w0 := w2) W.heap.size rfl (.tmp 22) (.tmp 25) 51 3 (.int .i64 0) 8 rfl Try.underlying51 int_info rfl (by decide) (by omega) u4 out x.f2 [.int .i64 x.f2] (fun k => W.heap.size ≤ k) (fun _ => False) rfl rfl rfl (fun _ hk => hk.elim) (fun k hk => Nat.le_trans Z2.out hk) O2.out (Below.refl _ _) Z2.out (by have : (Kd.int .i64).sz = 1 := rfl; omega) ?_; intro v1 w3 ho hb hg hat; have O3 := Aside0.mk (Kd.R_mono ho (fun _ _ => trivial)); have NV := Aside0.mk (Kd.R_base O2.out); have HB3 := Aside0.mk hb; have HG3 := Aside0.mk hg; clear ho hb hg hat)
        go_roundw
        case rel => exact ⟨i + 1, by omega, by go_num, by rw [HN.out, HE.out]; exact O3, by rw [HN.out, HE.out]; exact ⟨Seen_kept S2.out HG3.out (fun e => by have := NV.out m e.symm; have := WS.out; omega)⟩, ⟨T2.out.trans (below_lower HB3.out (Nat.le_of_lt WS.out))⟩⟩
        case measure => simp [intOf]; omega
    · obtain rfl : i = bs.length := by omega
      have hd1 : decide ((bs.length : Int) < (bs.length : Int)) = false := decide_eq_false (by omega)
      have hd2 : decide (bs.length < bs.length) = false := decide_eq_false (by omega)
      rw [List.take_length] at HO HS
      go_wp2_with fail
      go_ret
      exact ⟨_, rfl, by rw [GM.out]; exact Kd.R_lower HO.out (Nat.le_of_lt WS.out), by have := TW.out; rw [GM.out] at this ⊢; exact this.trans HT.out⟩
end Go.Proofs.Ytimkafkiphfacaa.M
