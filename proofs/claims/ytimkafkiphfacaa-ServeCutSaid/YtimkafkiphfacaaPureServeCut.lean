/- ServeCut: hosts at or beneath the cut that the bindings are of are not wanting, others without a binding are. Conditions: none (every input that can be read). -/
import Derived.Test.YtimkafkiphfacaaPx36
import Derived.Test.YtimkafkiphfacaaSRel
import Derived.Test.YtimkafkiphfacaaHServe3
import Derived.Test.YtimkafkiphfacaaPx32

set_option linter.unusedVariables false
set_option linter.unusedSimpArgs false
namespace Go.Proofs.Ytimkafkiphfacaa.M
open Go Go.RowKit Go.Proofs.YtimkafkiphfacaaW.PrintWords Go.Proofs.Ytimkafkiphfacaa.P

theorem good_of {ls : List Bytes} (h : ls.all (fun l => decide (1 ≤ l.length ∧ l.length ≤ 63)) = true) : Good ls := by
  intro l hl
  simpa using List.all_eq_true.1 h l hl
theorem num_eq (n : Int) : wimplelaw0_Num.f n = some n := rfl
theorem w_inc (i : Nat) (h : i ≤ 9000000000000) : wrap64 ((i : Int) + 1) = ((i + 1 : Nat) : Int) := by rw [w64 _ (by omega)]; omega
theorem rdS {l : List ByteArray} {i : Nat} (h : i < l.length) : rdOf ByteArray.empty l (i : Int) = l[i] := by simp [rdOf, List.getD_eq_getElem?_getD, List.getElem?_eq_getElem h]
theorem rdI {l : List Int} {i : Nat} (h : i < l.length) : rd l (i : Int) = l[i] := by simp [rd, List.getD_eq_getElem?_getD, List.getElem?_eq_getElem h]
theorem SameT_l0 (l : List ByteArray) (hl : l.length ≤ 9000000000000) : ∀ (d i : Nat), l.length - i = d → i ≤ l.length → Ev (fun k => wimplelaw0_SameTexts.l0 k l l (i : Int)) true := by
  intro d
  induction d with
  | zero =>
    intro i hd hi
    exact Ev.step (fun k => by simp only [wimplelaw0_SameTexts.l0]; rfl) (Ev.neg (by omega) (Ev.pure _))
  | succ d ih =>
    intro i hd hi
    refine Ev.step (fun k => by simp only [wimplelaw0_SameTexts.l0]; rfl) ?_
    simp only [w_inc i (by omega)]
    exact Ev.pos (by omega) (Ev.pos (by omega) (Ev.pos (by omega) (Ev.pos (by trivial) (ih (i + 1) (by omega) (by omega)))))
theorem SameT_refl (l : List ByteArray) (hl : l.length ≤ 9000000000000) : Ev (fun k => wimplelaw0_SameTexts.f k l l) true := by
  unfold wimplelaw0_SameTexts.f
  exact Ev.pos rfl (SameT_l0 l hl l.length 0 (by omega) (by omega))
theorem SameI_l0 (l : List Int) (hl : l.length ≤ 9000000000000) : ∀ (d i : Nat), l.length - i = d → i ≤ l.length → Ev (fun k => wimplelaw0_SameInts.l0 k l l (i : Int)) true := by
  intro d
  induction d with
  | zero =>
    intro i hd hi
    exact Ev.step (fun k => by simp only [wimplelaw0_SameInts.l0]; rfl) (Ev.neg (by omega) (Ev.pure _))
  | succ d ih =>
    intro i hd hi
    refine Ev.step (fun k => by simp only [wimplelaw0_SameInts.l0]; rfl) ?_
    simp only [w_inc i (by omega)]
    exact Ev.pos (by omega) (Ev.pos (by omega) (Ev.pos (by omega) (Ev.pos (by trivial) (ih (i + 1) (by omega) (by omega)))))
theorem SameI_refl (l : List Int) (hl : l.length ≤ 9000000000000) : Ev (fun k => wimplelaw0_SameInts.f k l l) true := by
  unfold wimplelaw0_SameInts.f
  exact Ev.pos rfl (SameI_l0 l hl l.length 0 (by omega) (by omega))
theorem addr_f (bs : List S61) (hl : bs.length ≤ 2199023255488) (hw : ∀ b ∈ bs, (Lit.int .i64 b.f2).wf = true) : serve_Addrs.f bs = some (addrsS bs) := by
  unfold serve_Addrs.f
  rw [if_pos ⟨hl, hw⟩]
theorem want_f (hs : List ByteArray) (bs : List S61) (hl : hs.length ≤ 8796093021952) : serve_Wanting.f hs bs = some (wantS hs bs) := by
  unfold serve_Wanting.f
  rw [if_pos hl]

theorem awake16_ev : Ev (fun k => wimplelaw16_awake.f k) true := by
  have nc : nm [1, 99, 0] = some [[99]] := nm_some.2 ⟨good_of (by decide), by decide, by decide⟩
  have nA : nm [1, 65, 0] = some [[65]] := nm_some.2 ⟨good_of (by decide), by decide, by decide⟩
  have nb : nm [1, 98, 0] = some [[98]] := nm_some.2 ⟨good_of (by decide), by decide, by decide⟩
  have na : nm [1, 97, 0] = some [[97]] := nm_some.2 ⟨good_of (by decide), by decide, by decide⟩
  have nx : nm [1, 120, 0] = some [[120]] := nm_some.2 ⟨good_of (by decide), by decide, by decide⟩
  have ny : nm [1, 121, 1, 99, 0] = some [[121], [99]] := nm_some.2 ⟨good_of (by decide), by decide, by decide⟩
  have s1 : sameS [1, 65, 0] [1, 97, 0] = true := (sameS_some nA na).trans (by decide)
  have s2 : sameS [1, 65, 0] [1, 120, 0] = false := (sameS_some nA nx).trans (by decide)
  have s3 : sameS [1, 98, 0] [1, 120, 0] = false := (sameS_some nb nx).trans (by decide)
  have b1 : aboveS [1, 99, 0] [1, 120, 0] = false := (aboveS_some nc nx).trans (by decide)
  have b2 : aboveS [1, 99, 0] [1, 121, 1, 99, 0] = true := (aboveS_some nc ny).trans (by decide)
  obtain ⟨bs, hb⟩ : ∃ bs, bs = ([(⟨(⟨#[1, 99, 0]⟩ : ByteArray), (⟨#[1, 65, 0]⟩ : ByteArray), 5, (⟨#[]⟩ : ByteArray), 0⟩ : S61), (⟨(⟨#[1, 99, 0]⟩ : ByteArray), (⟨#[1, 98, 0]⟩ : ByteArray), 5, (⟨#[]⟩ : ByteArray), 0⟩ : S61)] : List (S61)) := ⟨_, rfl⟩
  have w1 : want1 bs ⟨#[1, 97, 0]⟩ = false := by
    subst hb
    show (!(sameS [1, 65, 0] [1, 97, 0] || (sameS [1, 98, 0] [1, 97, 0] || false)) && !(aboveS [1, 99, 0] [1, 97, 0])) = false
    rw [s1]
    rfl
  have w2 : want1 bs ⟨#[1, 120, 0]⟩ = true := by
    subst hb
    show (!(sameS [1, 65, 0] [1, 120, 0] || (sameS [1, 98, 0] [1, 120, 0] || false)) && !(aboveS [1, 99, 0] [1, 120, 0])) = true
    rw [s2, s3, b1]
    rfl
  have w3 : want1 bs ⟨#[1, 121, 1, 99, 0]⟩ = false := by
    subst hb
    show (!(sameS [1, 65, 0] [1, 121, 1, 99, 0] || (sameS [1, 98, 0] [1, 121, 1, 99, 0] || false)) && !(aboveS [1, 99, 0] [1, 121, 1, 99, 0])) = false
    rw [b2, Bool.not_true, Bool.and_false]
  have hw : wantS [(⟨#[1, 97, 0]⟩ : ByteArray), (⟨#[1, 120, 0]⟩ : ByteArray), (⟨#[1, 121, 1, 99, 0]⟩ : ByteArray)] bs = [(⟨#[1, 120, 0]⟩ : ByteArray)] := by
    unfold wantS
    rw [List.filter_cons_of_neg (by rw [w1]; decide), List.filter_cons_of_pos (by rw [w2]), List.filter_cons_of_neg (by rw [w3]; decide), List.filter_nil]
  have ha : addrsS bs = [5] := by
    subst hb
    rfl
  unfold wimplelaw16_awake.f
  refine Ev.bindp (a := bs) (by rw [hb]) (Ev.bindp ((want_f _ bs (by decide)).trans (by rw [hw])) (Ev.bindp ((addr_f bs (by rw [hb]; decide) (by rw [hb]; decide)).trans (by rw [ha])) (Ev.bind (SameI_refl _ (by decide)) (Ev.pos rfl (Ev.bind (SameT_refl _ (by decide)) (Ev.pos rfl (Ev.bindp (num_eq _) (Ev.eq (Ev.pure _) (by decide)))))))))
end Go.Proofs.Ytimkafkiphfacaa.M

set_option linter.unusedVariables false
set_option linter.unusedSimpArgs false
namespace Go.Proofs.Ytimkafkiphfacaa.M
open Go Go.RowKit Go.Proofs.YtimkafkiphfacaaW.PrintWords Go.Proofs.Ytimkafkiphfacaa.P

theorem want_pre (hs : List ByteArray) (bs : List S61) (i : Nat) (h : i < hs.length) (hw : want1 bs hs[i] = true) : ∃ hl : (wantS (hs.take i) bs).length < (wantS hs bs).length, (wantS hs bs)[(wantS (hs.take i) bs).length] = hs[i] := by
  have e : wantS hs bs = wantS (hs.take i) bs ++ (hs[i] :: wantS (hs.drop (i + 1)) bs) := by
    unfold wantS
    conv => lhs; rw [← List.take_append_drop i hs, List.drop_eq_getElem_cons h]
    rw [List.filter_append, List.filter_cons, if_pos hw]
  have hl : (wantS (hs.take i) bs).length < (wantS hs bs).length := by rw [e]; simp
  refine ⟨hl, ?_⟩
  have : (wantS hs bs)[(wantS (hs.take i) bs).length]? = some hs[i] := by
    rw [e, List.getElem?_append_right (Nat.le_refl _), Nat.sub_self]
    rfl
  rw [List.getElem?_eq_getElem hl] at this
  exact Option.some.inj this
theorem want_stay {hs : List ByteArray} {bs : List S61} {i : Nat} (h : i < hs.length) (hw : want1 bs hs[i] = false) : wantS (hs.take (i + 1)) bs = wantS (hs.take i) bs := by
  rw [want_next h, hw]; simp
theorem want_more {hs : List ByteArray} {bs : List S61} {i : Nat} (h : i < hs.length) (hw : want1 bs hs[i] = true) : (wantS (hs.take (i + 1)) bs).length = (wantS (hs.take i) bs).length + 1 := by
  rw [want_next h, hw]; simp

section
variable (cut : ByteArray) (hs : List ByteArray) (own : ByteArray)
abbrev bnd (cut own : ByteArray) : List S61 := [(⟨cut, own, 1, (⟨#[]⟩ : ByteArray), 0⟩ : S61)]
theorem cut_l0 (hl : hs.length ≤ 8796093021952) : ∀ (d i : Nat), hs.length - i = d → i ≤ hs.length →
    Ev (fun k => wimplelaw16_ServeCut.l0 k cut hs own (bnd cut own) (wantS hs (bnd cut own)) ((wantS (hs.take i) (bnd cut own)).length : Int) (i : Int)) true := by
  intro d
  induction d with
  | zero =>
    intro i hd hi
    obtain rfl : i = hs.length := by omega
    refine Ev.step (fun k => by simp only [wimplelaw16_ServeCut.l0]; rfl) (Ev.neg (by omega) ?_)
    refine Ev.pos (by rw [List.take_length]) ?_
    exact Ev.bindp (addr_f _ (by show 1 ≤ 2199023255488; omega) (by intro b hb; simp at hb; subst hb; show (Lit.int .i64 1).wf = true; decide)) (Ev.bind (SameI_refl [1] (by decide)) (Ev.pos rfl (Ev.bindp (addr_f [] (by decide) (by simp)) (Ev.pos rfl (Ev.bindp (num_eq _) (Ev.eq (Ev.pure _) (by decide)))))))
  | succ d ih =>
    intro i hd hi
    have hlt : i < hs.length := by omega
    have hwl := want_le hs (bnd cut own) i hi
    have ih1 := ih (i + 1) (by omega) (by omega)
    have hw1 : want1 (bnd cut own) hs[i] = (!(sameS (B own) (B hs[i]) || false) && !(aboveS (B cut) (B hs[i]))) := rfl
    refine Ev.step (fun k => by simp only [wimplelaw16_ServeCut.l0]; rfl) (Ev.pos (by omega) (Ev.pos (by omega) ?_))
    simp only [rdS hlt]
    refine Ev.bind (refAbove_ev cut hs[i]) ?_
    cases ha : aboveS (B cut) (B hs[i]) with
    | true =>
      rw [want_stay hlt (by rw [hw1, ha]; simp)] at ih1
      refine Ev.pos rfl (Ev.step (fun k => by simp only [wimplelaw16_ServeCut.j2]; rfl) ?_)
      refine Ev.pos (by trivial) ?_
      simp only [w_inc i (by omega)]
      exact ih1
    | false =>
      refine Ev.neg (by decide) (Ev.bind (refSame_ev own hs[i]) ?_)
      cases hsm : sameS (B own) (B hs[i]) with
      | true =>
        rw [want_stay hlt (by rw [hw1, hsm]; simp)] at ih1
        refine Ev.step (fun k => by simp only [wimplelaw16_ServeCut.j2]; rfl) ?_
        refine Ev.pos (by trivial) ?_
        simp only [w_inc i (by omega)]
        exact ih1
      | false =>
        have hw : want1 (bnd cut own) hs[i] = true := by rw [hw1, hsm, ha]; rfl
        obtain ⟨hpl, hpe⟩ := want_pre hs (bnd cut own) i hlt hw
        rw [want_more hlt hw] at ih1
        refine Ev.step (fun k => by simp only [wimplelaw16_ServeCut.j2]; rfl) ?_
        refine Ev.neg (by decide) (Ev.neg (by omega) (Ev.pos (by omega) (Ev.pos (by omega) (Ev.pos (by omega) (Ev.pos (by omega) ?_)))))
        simp only [rdS hlt, rdS hpl, hpe]
        refine Ev.pos (by trivial) ?_
        simp only [w_inc i (by omega), w_inc (wantS (hs.take i) (bnd cut own)).length (by omega)]
        exact ih1
theorem ServeCut_ev (hl : hs.length ≤ 8796093021952) : Ev (fun k => wimplelaw16_ServeCut.f k cut hs own) true := by
  unfold wimplelaw16_ServeCut.f
  refine Ev.bind awake16_ev (Ev.pos rfl (Ev.bind (refMay_ev cut) ?_))
  have yes : Ev (fun k => wimplelaw16_ServeCut.j0 k cut hs own true) true := by
    refine Ev.step (fun k => by simp only [wimplelaw16_ServeCut.j0]; rfl) ?_
    exact Ev.pos (by trivial) (Ev.pure _)
  cases hc : (nm (B cut)).isSome with
  | false => exact Ev.neg (by decide) yes
  | true =>
    refine Ev.pos rfl (Ev.bind (refMay_ev own) ?_)
    cases ho : (nm (B own)).isSome with
    | false => exact yes
    | true =>
      refine Ev.step (fun k => by simp only [wimplelaw16_ServeCut.j0]; rfl) ?_
      refine Ev.neg (by decide) (Ev.bindp (a := bnd cut own) rfl (Ev.bindp (want_f hs _ hl) ?_))
      have := cut_l0 cut hs own hl hs.length 0 (by omega) (by omega)
      exact this
end
end Go.Proofs.Ytimkafkiphfacaa.M

set_option linter.unusedVariables false
namespace Go.Proofs.Ytimkafkiphfacaa.M
open Go Go.RowKit Go.Proofs.YtimkafkiphfacaaW.PrintWords Go.Proofs.Ytimkafkiphfacaa.P
theorem ServeCut_calls (w : World) (a0 : ByteArray) (A1 : Option Addr) (c1 : Nat) (l1 : List ByteArray) (a2 : ByteArray) (h : Kd.C Kd.string w A1 l1.length l1) (hc : l1.length ≤ c1) (hz : ∀ x ∈ l1, x.size ≤ 9223372036854775807) (hl : l1.length ≤ 8796093021952) : Calls Try.prog 9 #[.string a0, .slice A1 l1.length c1, .string a2] w fun e w' => e = .returned (.bool true) ∧ Below w.heap.size w w' := by
  obtain ⟨k, hk⟩ := Ev.rounds (ServeCut_ev a0 l1 a2 hl)
  exact wimplelaw16_ServeCut.calls k a0 A1 c1 l1 a2 true w h hc hk
end Go.Proofs.Ytimkafkiphfacaa.M
