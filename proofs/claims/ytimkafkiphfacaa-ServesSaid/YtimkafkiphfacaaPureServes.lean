/- Serves: any bindings and hosts: each address once, in its row; the hosts that are wanting, in theirs; what is handed in stays. Conditions: none (every input that can be read). -/
import Derived.Test.YtimkafkiphfacaaHServe4
import Derived.Test.YtimkafkiphfacaaPx25
import Derived.Test.YtimkafkiphfacaaPx27
import Derived.Test.YtimkafkiphfacaaPx28
set_option linter.unusedVariables false
set_option linter.unusedSimpArgs false
namespace Go.Proofs.Ytimkafkiphfacaa.M
open Go Go.RowKit Go.Proofs.YtimkafkiphfacaaW.PrintWords Go.Proofs.YtimkafkiphfacaaW.PrintLast Go.Proofs.YtimkafkiphfacaaW.PrintMore Go.Proofs.Ytimkafkiphfacaa.P

section
variable (bs : List S61)
theorem ra_l1 (hb : bs.length ≤ 2199023255488) (i : Nat) (hi : i < bs.length) (out : List Int) (ho : out.length ≤ i) (r : List Int) (next : Ev (fun k => wimpleref13_Addrs.l0 k bs (stepA out bs[i]) ((i + 1 : Nat) : Int)) r) :
    ∀ (d j : Nat), out.length - j = d → j ≤ out.length → Ev (fun k => wimpleref13_Addrs.l1 k bs out (i : Int) (decide (bs[i].f2 ∈ out.take j)) (j : Int)) r := by
  intro d
  induction d with
  | zero =>
    intro j hd hj
    obtain rfl : j = out.length := by omega
    rw [List.take_length]
    refine Ev.step (fun k => by simp only [wimpleref13_Addrs.l1]; rfl) ?_
    refine Ev.neg (by omega) ?_
    simp only [w_inc i (by omega), rd61 hi]
    by_cases h : bs[i].f2 ∈ out
    · refine Ev.pos (by simpa using h) ?_
      rw [stepA, if_pos h] at next
      exact next
    · refine Ev.neg (by simpa using h) (Ev.pos (by omega) (Ev.pos (by omega) (Ev.pos (by omega) ?_)))
      rw [stepA, if_neg h] at next
      exact next
  | succ d ih =>
    intro j hd hj
    have hjl : j < out.length := by omega
    have ih1 := ih (j + 1) (by omega) (by omega)
    have hstep : decide (bs[i].f2 ∈ out.take (j + 1)) = (decide (bs[i].f2 ∈ out.take j) || (out[j] == bs[i].f2)) := by
      rw [List.take_succ_eq_append_getElem hjl]
      have e1 : (bs[i].f2 ∈ out.take j ++ [out[j]]) ↔ (bs[i].f2 ∈ out.take j ∨ out[j] = bs[i].f2) := by
        rw [List.mem_append, List.mem_singleton]
        exact or_congr Iff.rfl ⟨Eq.symm, Eq.symm⟩
      rw [decide_eq_decide.2 e1, Bool.decide_or]
      rfl
    rw [hstep] at ih1
    refine Ev.step (fun k => by simp only [wimpleref13_Addrs.l1]; rfl) ?_
    refine Ev.pos (by omega) ?_
    simp only [w_inc j (by omega), rd61 hi, rdI hjl]
    cases h : decide (bs[i].f2 ∈ out.take j) with
    | true =>
      rw [h, Bool.true_or] at ih1
      exact Ev.pos (by trivial) ih1
    | false =>
      rw [h, Bool.false_or] at ih1
      exact Ev.neg (by decide) (Ev.pos (by omega) (Ev.pos (by omega) (Ev.pos (by omega) ih1)))
theorem ra_l0 (hb : bs.length ≤ 2199023255488) : ∀ (d i : Nat), bs.length - i = d → i ≤ bs.length → Ev (fun k => wimpleref13_Addrs.l0 k bs (addrsS (bs.take i)) (i : Int)) (addrsS bs) := by
  intro d
  induction d with
  | zero =>
    intro i hd hi
    obtain rfl : i = bs.length := by omega
    rw [List.take_length]
    refine Ev.step (fun k => by simp only [wimpleref13_Addrs.l0]; rfl) ?_
    exact Ev.neg (by omega) (Ev.pure _)
  | succ d ih =>
    intro i hd hi
    have hil : i < bs.length := by omega
    have ih1 := ih (i + 1) (by omega) (by omega)
    rw [addrs_next hil] at ih1
    refine Ev.step (fun k => by simp only [wimpleref13_Addrs.l0]; rfl) ?_
    refine Ev.pos (by omega) ?_
    have := ra_l1 bs hb i hil (addrsS (bs.take i)) (addrs_le bs i hi) _ ih1 _ 0 rfl (by omega)
    simpa using this
theorem refAddrs_ev (hb : bs.length ≤ 2199023255488) : Ev (fun k => wimpleref13_Addrs.f k bs) (addrsS bs) := by
  unfold wimpleref13_Addrs.f
  exact ra_l0 bs hb bs.length 0 (by omega) (by omega)

variable (hs : List ByteArray)
def flg (bs : List S61) (h : ByteArray) (j : Nat) : Bool := cutB bs h || (bs.take j).any (hasB h)
theorem rw_l1 (hl : hs.length ≤ 8796093021952) (hb : bs.length ≤ 2199023255488) (i : Nat) (hi : i < hs.length) (out : List ByteArray) (ho : out.length ≤ i) (r : List ByteArray) (next : Ev (fun k => wimpleref13_Wanting.l0 k hs bs (out ++ (if want1 bs hs[i] then [hs[i]] else [])) ((i + 1 : Nat) : Int)) r) :
    ∀ (d j : Nat), bs.length - j = d → j ≤ bs.length → Ev (fun k => wimpleref13_Wanting.l1 k hs bs out (i : Int) (flg bs hs[i] j) (j : Int)) r := by
  intro d
  induction d with
  | zero =>
    intro j hd hj
    obtain rfl : j = bs.length := by omega
    have hw : want1 bs hs[i] = !(flg bs hs[i] bs.length) := by
      unfold want1 flg
      rw [List.take_length]
      cases bs.any (hasB hs[i]) <;> cases cutB bs hs[i] <;> rfl
    rw [hw] at next
    refine Ev.step (fun k => by simp only [wimpleref13_Wanting.l1]; rfl) ?_
    refine Ev.neg (by omega) ?_
    simp only [w_inc i (by omega), rdS hi]
    cases h : flg bs hs[i] bs.length with
    | true =>
      rw [h, if_neg (by simp), List.append_nil] at next
      exact Ev.pos (by trivial) next
    | false =>
      rw [h, if_pos (by simp)] at next
      exact Ev.neg (by decide) (Ev.pos (by omega) (Ev.pos (by omega) (Ev.pos (by omega) next)))
  | succ d ih =>
    intro j hd hj
    have hjl : j < bs.length := by omega
    have ih1 := ih (j + 1) (by omega) (by omega)
    have hstep : flg bs hs[i] (j + 1) = (flg bs hs[i] j || sameS (B bs[j].f1) (B hs[i])) := by
      unfold flg
      rw [List.take_succ_eq_append_getElem hjl, List.any_append]
      simp [hasB, Bool.or_assoc]
    rw [hstep] at ih1
    refine Ev.step (fun k => by simp only [wimpleref13_Wanting.l1]; rfl) ?_
    refine Ev.pos (by omega) ?_
    simp only [w_inc j (by omega), rd61 hjl, rdS hi]
    cases h : flg bs hs[i] j with
    | true =>
      rw [h, Bool.true_or] at ih1
      exact Ev.pos (by trivial) ih1
    | false =>
      rw [h, Bool.false_or] at ih1
      exact Ev.neg (by decide) (Ev.pos (by omega) (Ev.pos (by omega) (Ev.pos (by omega) (Ev.bind (refSame_ev bs[j].f1 hs[i]) ih1))))
theorem rw_l0 (hl : hs.length ≤ 8796093021952) (hb : bs.length ≤ 2199023255488) : ∀ (d i : Nat), hs.length - i = d → i ≤ hs.length → Ev (fun k => wimpleref13_Wanting.l0 k hs bs (wantS (hs.take i) bs) (i : Int)) (wantS hs bs) := by
  intro d
  induction d with
  | zero =>
    intro i hd hi
    obtain rfl : i = hs.length := by omega
    rw [List.take_length]
    refine Ev.step (fun k => by simp only [wimpleref13_Wanting.l0]; rfl) ?_
    exact Ev.neg (by omega) (Ev.pure _)
  | succ d ih =>
    intro i hd hi
    have hil : i < hs.length := by omega
    have ih1 := ih (i + 1) (by omega) (by omega)
    rw [want_next hil] at ih1
    have hl1 := rw_l1 bs hs hl hb i hil (wantS (hs.take i) bs) (want_le hs bs i hi) _ ih1 _ 0 rfl (by omega)
    have h0 : flg bs hs[i] 0 = cutB bs hs[i] := by unfold flg; simp
    rw [h0] at hl1
    refine Ev.step (fun k => by simp only [wimpleref13_Wanting.l0]; rfl) ?_
    refine Ev.pos (by omega) ?_
    simp only [rdS hil]
    cases bs with
    | nil =>
      refine Ev.neg (by simp) ?_
      refine Ev.step (fun k => by simp only [wimpleref13_Wanting.j1]; rfl) ?_
      exact hl1
    | cons b r =>
      refine Ev.pos (by simp) (Ev.pos (by simp) (Ev.pos (by omega) (Ev.bind (refAbove_ev b.f0 hs[i]) ?_)))
      refine Ev.step (fun k => by simp only [wimpleref13_Wanting.j1]; rfl) ?_
      exact hl1
theorem refWanting_ev (hl : hs.length ≤ 8796093021952) (hb : bs.length ≤ 2199023255488) : Ev (fun k => wimpleref13_Wanting.f k hs bs) (wantS hs bs) := by
  unfold wimpleref13_Wanting.f
  exact rw_l0 bs hs hl hb hs.length 0 (by omega) (by omega)
end
theorem spI_l0 : ∀ (d : Nat) (l : List Int) (i : Nat), l.length ≤ 9000000000000 → l.length - i = d → i ≤ l.length → ∃ r, Ev (fun k => wimplelaw0_SpoilInts.l0 k l (i : Int)) r
  | 0, l, i, hl, hd, hi => by
    refine ⟨l, Ev.step (fun k => by simp only [wimplelaw0_SpoilInts.l0]; rfl) ?_⟩
    exact Ev.neg (by omega) (Ev.pure _)
  | d + 1, l, i, hl, hd, hi => by
    obtain ⟨r, h⟩ := spI_l0 d (l.set i (wrap64 (-9 - rd l (i : Int)))) (i + 1) (by simpa using hl) (by simp; omega) (by simp; omega)
    refine ⟨r, Ev.step (fun k => by simp only [wimplelaw0_SpoilInts.l0]; rfl) ?_⟩
    refine Ev.pos (by omega) (Ev.pos (by omega) ?_)
    simp only [w_inc i (by omega), Int.toNat_natCast]
    exact h
theorem spI (l : List Int) (hl : l.length ≤ 9000000000000) : ∃ r k, wimplelaw0_SpoilInts.f k l = some r := by
  obtain ⟨r, h⟩ := spI_l0 l.length l 0 hl (by omega) (by omega)
  obtain ⟨k, hk⟩ := Ev.rounds h
  exact ⟨r, k, hk⟩
theorem spT_l0 : ∀ (d : Nat) (l : List ByteArray) (i : Nat), l.length ≤ 9000000000000 → (∀ j (h : j < l.length), i ≤ j → l[j].size ≤ 140737488351232) → l.length - i = d → i ≤ l.length → ∃ r, Ev (fun k => wimplelaw0_SpoilTexts.l0 k l (i : Int)) r
  | 0, l, i, hl, hz, hd, hi => by
    refine ⟨l, Ev.step (fun k => by simp only [wimplelaw0_SpoilTexts.l0]; rfl) ?_⟩
    exact Ev.neg (by omega) (Ev.pure _)
  | d + 1, l, i, hl, hz, hd, hi => by
    have hz1 := hz i (by omega) (Nat.le_refl _)
    obtain ⟨r, h⟩ := spT_l0 d (l.set i ((⟨#[126]⟩ : ByteArray) ++ rdOf ByteArray.empty l (i : Int))) (i + 1) (by simpa using hl) (fun j hj hij => by
      rw [List.getElem_set_ne (by omega)]
      exact hz j (by simpa using hj) (by omega)) (by simp; omega) (by simp; omega)
    refine ⟨r, Ev.step (fun k => by simp only [wimplelaw0_SpoilTexts.l0]; rfl) ?_⟩
    refine Ev.pos (by omega) (Ev.pos (by omega) (Ev.pos (by rw [rdS (by omega)]; omega) ?_))
    simp only [w_inc i (by omega), Int.toNat_natCast]
    exact h
theorem spT (l : List ByteArray) (hl : l.length ≤ 9000000000000) (hz : ∀ x ∈ l, x.size ≤ 140737488351232) : ∃ r k, wimplelaw0_SpoilTexts.f k l = some r := by
  obtain ⟨r, h⟩ := spT_l0 l.length l 0 hl (fun j hj _ => hz _ (List.getElem_mem hj)) (by omega) (by omega)
  obtain ⟨k, hk⟩ := Ev.rounds h
  exact ⟨r, k, hk⟩
end Go.Proofs.Ytimkafkiphfacaa.M

set_option linter.unusedVariables false
set_option linter.unusedSimpArgs false
namespace Go.Proofs.Ytimkafkiphfacaa.M
open Go Go.RowKit Go.Proofs.YtimkafkiphfacaaW.PrintWords Go.Proofs.YtimkafkiphfacaaW.PrintLast Go.Proofs.YtimkafkiphfacaaW.PrintMore Go.Proofs.Ytimkafkiphfacaa.P

set_option maxHeartbeats 8000000 in
set_option maxRecDepth 100000 in
theorem serves_walk (w : World) (A0 : Option Addr) (c0 : Nat) (hs : List ByteArray) (A1 : Option Addr) (c1 : Nat) (bs : List S61) (h0 : Kd.C Kd.string w A0 hs.length hs) (hc0 : hs.length ≤ c0) (h1 : Kd.C k61 w A1 bs.length bs) (hc1 : bs.length ≤ c1)
    (hl : hs.length ≤ 8796093021952) (hb : bs.length ≤ 2199023255488) (hz : ∀ x ∈ hs, x.size ≤ 140737488351232) (hwf : ∀ b ∈ bs, (Lit.int .i64 b.f2).wf = true) : Calls Try.prog 7 #[.slice A0 hs.length c0, .slice A1 bs.length c1] w fun e w' => e = .returned (.bool true) ∧ Below w.heap.size w w' := by
  obtain ⟨k1, hk1⟩ := Ev.rounds (refAddrs_ev bs hb)
  obtain ⟨k2, hk2⟩ := Ev.rounds (refWanting_ev bs hs hl hb)
  have hal : (addrsS bs).length ≤ bs.length := by have := addrs_le bs bs.length (Nat.le_refl _); rwa [List.take_length] at this
  have hwl : (wantS hs bs).length ≤ hs.length := List.length_filter_le _ _
  have hwz : ∀ x ∈ wantS hs bs, x.size ≤ 140737488351232 := fun x hx => hz x (List.mem_filter.1 hx).1
  obtain ⟨k3, hk3⟩ := Ev.rounds (SameI_refl (addrsS bs) (by omega))
  obtain ⟨k4, hk4⟩ := Ev.rounds (SameT_refl (wantS hs bs) (by omega))
  obtain ⟨r5, k5, hk5⟩ := spI (addrsS bs) (by omega)
  obtain ⟨r6, k6, hk6⟩ := spT (wantS hs bs) (by omega) hwz
  obtain ⟨k7, hk7⟩ := Ev.rounds awake16_ev
  have K1 := Aside0.mk hk1
  have K2 := Aside0.mk hk2
  have K3 := Aside0.mk hk3
  have K4 := Aside0.mk hk4
  have K5 := Aside0.mk hk5
  have K6 := Aside0.mk hk6
  have K7 := Aside0.mk hk7
  have H0 := Aside0.mk h0
  have H1 := Aside0.mk h1
  have HF := Aside0.mk hwf
  clear hk1 hk2 hk3 hk4 hk5 hk6 hk7 h0 h1 hwf hwz hz
  go_enter Try.func7, Try.ntmps7
  go_wp2_with fail
  refine (LendT_post A0 c0 hs w H0.out hc0 hl).mono ?_
  rintro e w1 ⟨ad, cx, rfl, hcx, hX, hb1⟩
  have B1 := Aside0.mk hb1
  have X1 := Aside0.mk hX
  clear hb1 hX
  simp only
  go_wp2_with fail
  refine (LendB_post A1 c1 bs w1 (Kd.C_below H1.out B1.out) hc1 hb).mono ?_
  rintro e w2 ⟨g, cy, rfl, hcy, hY, hb2⟩
  have B2 := Aside0.mk (below_then B1.out B1.out.size hb2)
  have X2 := Aside0.mk (Kd.C_below X1.out hb2)
  have Y2 := Aside0.mk hY
  have P0 := Aside0.mk (Kd.C_below H0.out B2.out)
  have P1 := Aside0.mk (Kd.C_below H1.out B2.out)
  clear hb2 hY X1 B1 H0 H1
  simp only
  go_wp2_with fail
  refine (Addrs_calls w2 (some ⟨g, 0, none⟩) cy bs (C_short Y2.out) (by omega) hb HF.out).mono ?_
  rintro e w3 ⟨va, rfl, hR, hb3⟩
  obtain ⟨Aa, ca, rfl, hla, _⟩ := Kd.R_reads hR
  have E3 := Aside0.mk hb3
  have RA := Aside0.mk (Kd.R_tight rfl hR)
  clear hR hb3
  simp only
  go_wp2_with fail
  refine (Wanting_calls w3 (some ad) cx hs (some ⟨g, 0, none⟩) cy bs (C_short (Kd.C_below X2.out E3.out)) (by omega) (C_short (Kd.C_below Y2.out E3.out)) (by omega) hl).mono ?_
  rintro e w4 ⟨vb, rfl, hR, hb4⟩
  obtain ⟨Ab, cb, rfl, hlb, _⟩ := Kd.R_reads hR
  have E4 := Aside0.mk (below_then E3.out E3.out.size hb4)
  have NB : Aside0 (∀ k, some k = (Value.slice Ab (wantS hs bs).length cb).ownBlock → ¬ some k = (Value.slice Aa (addrsS bs).length ca).ownBlock) := ⟨fun k h1 h2 => by
    have a1 := Kd.R_base hR k h1.symm
    have a2 := Kd.R_lt RA.out k h2.symm
    omega⟩
  have RB := Aside0.mk (Kd.R_lower (Kd.R_tight rfl hR) E3.out.size)
  have RA4 := Aside0.mk (Kd.R_below RA.out hb4)
  clear hR hb4 RA
  simp only
  go_wp2_with fail
  refine (wimpleref13_Addrs.calls k1 A1 c1 bs (addrsS bs) _ (Kd.C_below P1.out E4.out) hc1 K1.out).mono ?_
  rintro e w5 ⟨v5, rfl, hR, hb5⟩
  obtain ⟨A5, c5, rfl, hl5, hC5⟩ := Kd.R_reads hR
  have E5 := Aside0.mk (below_then E4.out E4.out.size hb5)
  have RA5 := Aside0.mk (Kd.R_below RA4.out hb5)
  have RB5 := Aside0.mk (Kd.R_below RB.out hb5)
  have C5 := Aside0.mk hC5
  clear hR hb5 hC5 RA4 RB
  simp only
  go_wp2_with fail
  refine (wimplelaw0_SameInts.calls k3 Aa ca (addrsS bs) A5 c5 (addrsS bs) true _ (Kd.R_reads' RA5.out).2.2 hla C5.out hl5 K3.out).mono ?_
  rintro e w6 ⟨rfl, hd⟩
  have hb6 := hd.below
  have E6 := Aside0.mk (below_then E5.out E5.out.size hb6)
  have RA6 := Aside0.mk (Kd.R_below RA5.out hb6)
  have RB6 := Aside0.mk (Kd.R_below RB5.out hb6)
  clear hd hb6 C5 RA5 RB5
  simp only
  go_wp2_with fail
  refine (wimpleref13_Wanting.calls k2 A0 c0 hs A1 c1 bs (wantS hs bs) _ (Kd.C_below P0.out E6.out) hc0 (Kd.C_below P1.out E6.out) hc1 K2.out).mono ?_
  rintro e w7 ⟨v7, rfl, hR, hb7⟩
  obtain ⟨A7, c7, rfl, hl7, hC7⟩ := Kd.R_reads hR
  have E7 := Aside0.mk (below_then E6.out E6.out.size hb7)
  have RA7 := Aside0.mk (Kd.R_below RA6.out hb7)
  have RB7 := Aside0.mk (Kd.R_below RB6.out hb7)
  have C7 := Aside0.mk hC7
  clear hR hb7 hC7 RA6 RB6
  simp only
  go_wp2_with fail
  refine (wimplelaw0_SameTexts.calls k4 Ab cb (wantS hs bs) A7 c7 (wantS hs bs) true _ (Kd.R_reads' RB7.out).2.2 hlb C7.out hl7 K4.out).mono ?_
  rintro e w8 ⟨rfl, hd⟩
  have hb8 := hd.below
  have E8 := Aside0.mk (below_then E7.out E7.out.size hb8)
  have RA8 := Aside0.mk (Kd.R_below RA7.out hb8)
  have RB8 := Aside0.mk (Kd.R_below RB7.out hb8)
  clear hd hb8 C7 RA7 RB7
  simp only
  go_wp2_with fail
  refine (wimplelaw0_SpoilInts.calls k5 _ _ (addrsS bs) r5 w2 w8 E8.out RA8.out K5.out).mono ?_
  rintro e w9 ⟨rfl, _, hb9, hk9⟩
  have E9 := Aside0.mk hb9
  have RB9 := Aside0.mk (Kd.R_kept RB8.out hk9 (fun k hk => NB.out k hk))
  clear hb9 hk9 RA8 RB8 E8
  simp only
  go_wp2_with fail
  refine (wimplelaw0_SpoilTexts.calls k6 _ _ (wantS hs bs) r6 w2 w9 E9.out RB9.out K6.out).mono ?_
  rintro e w10 ⟨rfl, _, hb10, _⟩
  have E10 := Aside0.mk hb10
  clear hb10 RB9
  simp only
  go_wp2_with fail
  refine (KeptT_true w10 ad cx c0 A0 hs hl (Kd.C_below X2.out E10.out) hcx (Kd.C_below P0.out E10.out) hc0).mono ?_
  rintro e w11 ⟨rfl, hd⟩
  have E11 := Aside0.mk (below_then E10.out E10.out.size hd.below)
  clear hd
  simp only
  go_wp2_with fail
  refine (KeptB_true w11 g cy c1 A1 bs hb (Kd.C_below Y2.out E11.out) hcy (Kd.C_below P1.out E11.out) hc1).mono ?_
  rintro e w12 ⟨rfl, hd⟩
  have E12 := Aside0.mk (below_then E11.out E11.out.size hd.below)
  clear hd
  simp only
  go_wp2_with fail
  refine (wimplelaw16_awake.calls k7 true _ K7.out).mono ?_
  rintro e w13 ⟨rfl, hb13⟩
  have E13 := Aside0.mk (below_then B2.out B2.out.size (below_then E12.out E12.out.size hb13))
  clear hb13
  simp only
  go_wp2_with fail
  go_ret
  exact ⟨rfl, E13.out⟩
end Go.Proofs.Ytimkafkiphfacaa.M

set_option linter.unusedVariables false
namespace Go.Proofs.Ytimkafkiphfacaa.M
open Go Go.RowKit Go.Proofs.YtimkafkiphfacaaW.PrintWords Go.Proofs.Ytimkafkiphfacaa.P
theorem Serves_calls (w : World) (A0 : Option Addr) (c0 : Nat) (l0 : List ByteArray) (A1 : Option Addr) (c1 : Nat) (l1 : List S61) (h : Kd.C Kd.string w A0 l0.length l0) (hc : l0.length ≤ c0) (hz : ∀ x ∈ l0, x.size ≤ 140737488351232) (h1 : Kd.C k61 w A1 l1.length l1) (hc1 : l1.length ≤ c1) (hz1 : ∀ x ∈ l1, (Lit.int .i64 x.f2).wf = true) (hl : l0.length ≤ 8796093021952) (hl1 : l1.length ≤ 2199023255488) : Calls Try.prog 7 #[.slice A0 l0.length c0, .slice A1 l1.length c1] w fun e w' => e = .returned (.bool true) ∧ Below w.heap.size w w' :=
  serves_walk w A0 c0 l0 A1 c1 l1 h hc h1 hc1 hl hl1 hz hz1
end Go.Proofs.Ytimkafkiphfacaa.M
