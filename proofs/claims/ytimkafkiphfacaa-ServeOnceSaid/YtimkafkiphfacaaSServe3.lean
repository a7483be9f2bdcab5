/- ServeOnce: the plain law. -/
import Derived.Test.YtimkafkiphfacaaPx34
import Derived.Test.YtimkafkiphfacaaPx35
import Derived.Test.YtimkafkiphfacaaSRel
import Derived.Test.YtimkafkiphfacaaHServe3
import Derived.Test.YtimkafkiphfacaaPx32

set_option linter.unusedVariables false
set_option linter.unusedSimpArgs false
namespace Go.Proofs.Ytimkafkiphfacaa.M
open Go Go.RowKit Go.Proofs.YtimkafkiphfacaaW.PrintWords Go.Proofs.Ytimkafkiphfacaa.P

theorem good_of {ls : List Bytes} (h : ls.all (fun l => decide (1 ≤ l.length ∧ l.length ≤ 63)) = true) : Good ls := by
  intro l hl
  simpa using List.all_eq_true.1 h l hl
theorem num_eq (n : Int) : wimplelaw0_Num.f n = some n := rfl
theorem w_inc (i : Nat) (h : i ≤ 9000000000000) : wrap64 ((i : Int) + 1) = ((i + 1 : Nat) : Int) := by rw [w64 _ (by omega)]; omega
theorem rdS {l : List ByteArray} {i : Nat} (h : i < l.length) : rdOf ByteArray.empty l (i : Int) = l[i] := by simp [rdOf, List.getD_eq_getElem?_getD, List.getElem?_eq_getElem h]
theorem rdI {l : List Int} {i : Nat} (h : i < l.length) : rd l (i : Int) = l[i] := by simp [rd, List.getD_eq_getElem?_getD, List.getElem?_eq_getElem h]
theorem SameT_l0 (l : List ByteArray) (hl : l.length ≤ 9000000000000) : ∀ (d i : Nat), l.length - i = d → i ≤ l.length → Ev (fun k => wimplelaw0_SameTexts.l0 k l l (i : Int)) true := by
  intro d
  induction d with
  | zero =>
    intro i hd hi
    exact Ev.step (fun k => by simp only [wimplelaw0_SameTexts.l0]; rfl) (Ev.neg (by omega) (Ev.pure _))
  | succ d ih =>
    intro i hd hi
    refine Ev.step (fun k => by simp only [wimplelaw0_SameTexts.l0]; rfl) ?_
    simp only [w_inc i (by omega)]
    exact Ev.pos (by omega) (Ev.pos (by omega) (Ev.pos (by omega) (Ev.pos (by trivial) (ih (i + 1) (by omega) (by omega)))))
theorem SameT_refl (l : List ByteArray) (hl : l.length ≤ 9000000000000) : Ev (fun k => wimplelaw0_SameTexts.f k l l) true := by
  unfold wimplelaw0_SameTexts.f
  exact Ev.pos rfl (SameT_l0 l hl l.length 0 (by omega) (by omega))
theorem SameI_l0 (l : List Int) (hl : l.length ≤ 9000000000000) : ∀ (d i : Nat), l.length - i = d → i ≤ l.length → Ev (fun k => wimplelaw0_SameInts.l0 k l l (i : Int)) true := by
  intro d
  induction d with
  | zero =>
    intro i hd hi
    exact Ev.step (fun k => by simp only [wimplelaw0_SameInts.l0]; rfl) (Ev.neg (by omega) (Ev.pure _))
  | succ d ih =>
    intro i hd hi
    refine Ev.step (fun k => by simp only [wimplelaw0_SameInts.l0]; rfl) ?_
    simp only [w_inc i (by omega)]
    exact Ev.pos (by omega) (Ev.pos (by omega) (Ev.pos (by omega) (Ev.pos (by trivial) (ih (i + 1) (by omega) (by omega)))))
theorem SameI_refl (l : List Int) (hl : l.length ≤ 9000000000000) : Ev (fun k => wimplelaw0_SameInts.f k l l) true := by
  unfold wimplelaw0_SameInts.f
  exact Ev.pos rfl (SameI_l0 l hl l.length 0 (by omega) (by omega))
theorem addr_f (bs : List S61) (hl : bs.length ≤ 2199023255488) (hw : ∀ b ∈ bs, (Lit.int .i64 b.f2).wf = true) : serve_Addrs.f bs = some (addrsS bs) := by
  unfold serve_Addrs.f
  rw [if_pos ⟨hl, hw⟩]
theorem want_f (hs : List ByteArray) (bs : List S61) (hl : hs.length ≤ 8796093021952) : serve_Wanting.f hs bs = some (wantS hs bs) := by
  unfold serve_Wanting.f
  rw [if_pos hl]

theorem awake16_ev : Ev (fun k => wimplelaw16_awake.f k) true := by
  have nc : nm [1, 99, 0] = some [[99]] := nm_some.2 ⟨good_of (by decide), by decide, by decide⟩
  have nA : nm [1, 65, 0] = some [[65]] := nm_some.2 ⟨good_of (by decide), by decide, by decide⟩
  have nb : nm [1, 98, 0] = some [[98]] := nm_some.2 ⟨good_of (by decide), by decide, by decide⟩
  have na : nm [1, 97, 0] = some [[97]] := nm_some.2 ⟨good_of (by decide), by decide, by decide⟩
  have nx : nm [1, 120, 0] = some [[120]] := nm_some.2 ⟨good_of (by decide), by decide, by decide⟩
  have ny : nm [1, 121, 1, 99, 0] = some [[121], [99]] := nm_some.2 ⟨good_of (by decide), by decide, by decide⟩
  have s1 : sameS [1, 65, 0] [1, 97, 0] = true := (sameS_some nA na).trans (by decide)
  have s2 : sameS [1, 65, 0] [1, 120, 0] = false := (sameS_some nA nx).trans (by decide)
  have s3 : sameS [1, 98, 0] [1, 120, 0] = false := (sameS_some nb nx).trans (by decide)
  have b1 : aboveS [1, 99, 0] [1, 120, 0] = false := (aboveS_some nc nx).trans (by decide)
  have b2 : aboveS [1, 99, 0] [1, 121, 1, 99, 0] = true := (aboveS_some nc ny).trans (by decide)
  obtain ⟨bs, hb⟩ : ∃ bs, bs = ([(⟨(⟨#[1, 99, 0]⟩ : ByteArray), (⟨#[1, 65, 0]⟩ : ByteArray), 5, (⟨#[]⟩ : ByteArray), 0⟩ : S61), (⟨(⟨#[1, 99, 0]⟩ : ByteArray), (⟨#[1, 98, 0]⟩ : ByteArray), 5, (⟨#[]⟩ : ByteArray), 0⟩ : S61)] : List (S61)) := ⟨_, rfl⟩
  have w1 : want1 bs ⟨#[1, 97, 0]⟩ = false := by
    subst hb
    show (!(sameS [1, 65, 0] [1, 97, 0] || (sameS [1, 98, 0] [1, 97, 0] || false)) && !(aboveS [1, 99, 0] [1, 97, 0])) = false
    rw [s1]
    rfl
  have w2 : want1 bs ⟨#[1, 120, 0]⟩ = true := by
    subst hb
    show (!(sameS [1, 65, 0] [1, 120, 0] || (sameS [1, 98, 0] [1, 120, 0] || false)) && !(aboveS [1, 99, 0] [1, 120, 0])) = true
    rw [s2, s3, b1]
    rfl
  have w3 : want1 bs ⟨#[1, 121, 1, 99, 0]⟩ = false := by
    subst hb
    show (!(sameS [1, 65, 0] [1, 121, 1, 99, 0] || (sameS [1, 98, 0] [1, 121, 1, 99, 0] || false)) && !(aboveS [1, 99, 0] [1, 121, 1, 99, 0])) = false
    rw [b2, Bool.not_true, Bool.and_false]
  have hw : wantS [(⟨#[1, 97, 0]⟩ : ByteArray), (⟨#[1, 120, 0]⟩ : ByteArray), (⟨#[1, 121, 1, 99, 0]⟩ : ByteArray)] bs = [(⟨#[1, 120, 0]⟩ : ByteArray)] := by
    unfold wantS
    rw [List.filter_cons_of_neg (by rw [w1]; decide), List.filter_cons_of_pos (by rw [w2]), List.filter_cons_of_neg (by rw [w3]; decide), List.filter_nil]
  have ha : addrsS bs = [5] := by
    subst hb
    rfl
  unfold wimplelaw16_awake.f
  refine Ev.bindp (a := bs) (by rw [hb]) (Ev.bindp ((want_f _ bs (by decide)).trans (by rw [hw])) (Ev.bindp ((addr_f bs (by rw [hb]; decide) (by rw [hb]; decide)).trans (by rw [ha])) (Ev.bind (SameI_refl _ (by decide)) (Ev.pos rfl (Ev.bind (SameT_refl _ (by decide)) (Ev.pos rfl (Ev.bindp (num_eq _) (Ev.eq (Ev.pure _) (by decide)))))))))
end Go.Proofs.Ytimkafkiphfacaa.M

set_option linter.unusedVariables false
set_option linter.unusedSimpArgs false
namespace Go.Proofs.Ytimkafkiphfacaa.M
open Go Go.RowKit Go.Proofs.YtimkafkiphfacaaW.PrintWords Go.Proofs.Ytimkafkiphfacaa.P

theorem step_mem (out : List Int) (b : S61) (x : Int) : x ∈ stepA out b ↔ x ∈ out ∨ x = b.f2 := by
  unfold stepA
  split
  · constructor
    · exact Or.inl
    · rintro (h | rfl)
      · exact h
      · assumption
  · simp
theorem addrs_mem {bs : List S61} : ∀ {i : Nat}, i ≤ bs.length → ∀ x, x ∈ addrsS (bs.take i) ↔ ∃ j, ∃ hj : j < bs.length, j < i ∧ bs[j].f2 = x
  | 0, _, x => by
    simp [addrsS]
  | i + 1, h, x => by
    rw [addrs_next (by omega), step_mem, addrs_mem (i := i) (by omega)]
    constructor
    · rintro (⟨j, hj, h1, h2⟩ | rfl)
      · exact ⟨j, hj, by omega, h2⟩
      · exact ⟨i, by omega, by omega, rfl⟩
    · rintro ⟨j, hj, h1, h2⟩
      by_cases e : j = i
      · subst e
        exact .inr h2.symm
      · exact .inl ⟨j, hj, by omega, h2⟩
theorem step_pre (out : List Int) (b : S61) : out <+: stepA out b := by
  unfold stepA
  split
  · exact List.prefix_rfl
  · exact List.prefix_append _ _
theorem fold_pre (bs : List S61) : ∀ out : List Int, out <+: bs.foldl stepA out := by
  induction bs with
  | nil => exact fun _ => List.prefix_rfl
  | cons b r ih => exact fun out => (step_pre out b).trans (ih _)
theorem addrs_pre (bs : List S61) (i : Nat) : addrsS (bs.take i) <+: addrsS bs := by
  unfold addrsS
  conv => rhs; rw [← List.take_append_drop i bs, List.foldl_append]
  exact fold_pre _ _
/-- No binding ahead of i, up to j, bears i's address. -/
def fst1 (bs : List S61) (i j : Nat) : Bool := (List.range j).all fun q => (rd_T61 bs (q : Int)).f2 != (rd_T61 bs (i : Int)).f2
theorem fst1_next (bs : List S61) (i j : Nat) : fst1 bs i (j + 1) = (fst1 bs i j && ((rd_T61 bs (j : Int)).f2 != (rd_T61 bs (i : Int)).f2)) := by
  unfold fst1
  rw [List.range_succ, List.all_append]
  simp
theorem fst1_mem {bs : List S61} {i : Nat} (h : i < bs.length) : fst1 bs i i = true ↔ bs[i].f2 ∉ addrsS (bs.take i) := by
  rw [addrs_mem (by omega)]
  unfold fst1
  rw [List.all_eq_true]
  constructor
  · rintro ha ⟨j, hj, h1, h2⟩
    have := ha j (List.mem_range.2 h1)
    rw [rd61 hj, rd61 h, h2] at this
    simp at this
  · intro ha q hq
    have hq' := List.mem_range.1 hq
    rw [rd61 (show q < bs.length by omega), rd61 h]
    simp only [bne_iff_ne, ne_eq]
    exact fun e => ha ⟨q, by omega, hq', e⟩

theorem single_list (l : List UInt8) (h : 1 < l.length) (h1 : ((l[0]'(by omega)).toNat : Int) = (l.length : Int) - 2) (h2 : ((l[0]'(by omega)).toNat : Int) > 0) (h3 : ((l[0]'(by omega)).toNat : Int) < 64) (h4 : l[l.length - 1]'(by omega) = 0) : nm l ≠ none := by
  have hne : l.drop 1 ≠ [] := by
    intro e
    have := congrArg List.length e
    simp at this
    omega
  have hl1 : (l.drop 1).getLast hne = 0 := by
    rw [List.getLast_eq_getElem, List.getElem_drop]
    rw [← h4]
    congr 1
    simp
    omega
  have hd : (l.drop 1).dropLast ++ [0] = l.drop 1 := by
    rw [← hl1]
    exact List.dropLast_concat_getLast hne
  have hc : l = (l[0]'(by omega)) :: l.drop 1 := by
    have := List.drop_eq_getElem_cons (l := l) (i := 0) (by omega)
    simpa using this
  have hb : UInt8.ofNat (l.drop 1).dropLast.length = l[0]'(by omega) := by
    apply UInt8.toNat_inj.1
    rw [ofNat_toNat_len (by simp; omega)]
    simp
    omega
  have he : wire [(l.drop 1).dropLast] = l := by
    have hw : wire [(l.drop 1).dropLast] = UInt8.ofNat (l.drop 1).dropLast.length :: ((l.drop 1).dropLast ++ [0]) := rfl
    rw [hw, hd, hb]
    exact hc.symm
  have hn : nm l = some [(l.drop 1).dropLast] := nm_some.2 ⟨fun q hq => by
    simp at hq
    subst hq
    simp
    omega, he, by omega⟩
  rw [hn]
  simp
theorem single_some (s : ByteArray) (h : 1 < s.size) (hm : s.size ≤ 9223372036854775807) : ∃ b, wimplelaw16_single.f s = some b ∧ (b = true → bt s ((s.size : Int) - 1) = 0 → nm (B s) ≠ none) := by
  unfold wimplelaw16_single.f
  have hlen := sz s
  have h0 := bt_get s 0 (by omega)
  have hlast := bt_get s (s.size - 1) (by omega)
  rw [show (((s.size - 1 : Nat)) : Int) = (s.size : Int) - 1 by omega] at hlast
  rw [show ((0 : Nat) : Int) = 0 from rfl] at h0
  rw [if_pos (by omega), h0, w64b, w64 ((s.size : Int) - 2) (by omega), hlast]
  by_cases h1 : (((B s)[0]'(by omega)).toNat : Int) = (s.size : Int) - 2
  · rw [if_pos h1]
    by_cases h2 : (((B s)[0]'(by omega)).toNat : Int) > 0
    · rw [if_pos h2]
      refine ⟨_, rfl, fun h3 h4 => ?_⟩
      refine single_list (B s) (by omega) (by omega) h2 (by simpa using h3) ?_
      apply UInt8.toNat_inj.1
      have h5 : (((B s)[s.size - 1]'(by omega)).toNat : Int) = 0 := h4
      have h6 : (B s)[(B s).length - 1]'(by omega) = (B s)[s.size - 1]'(by omega) := by congr 1 <;> omega
      rw [h6]
      simpa using h5
    · rw [if_neg h2]
      exact ⟨_, rfl, fun h => by cases h⟩
  · rw [if_neg h1]
    exact ⟨_, rfl, fun h => by cases h⟩

section
variable (hs : List ByteArray) (bs : List S61)
theorem once_l3 (hl : hs.length ≤ 8796093021952) (hb : bs.length ≤ 2199023255488) (hsz : ∀ h ∈ hs, h.size ≤ 9223372036854775807) (ads : List Int) (n : Int) (i : Nat) (hi : i < (wantS hs bs).length) (next : Ev (fun k => wimplelaw16_ServeOnce.l2 k hs bs ads n (wantS hs bs) (wrap64 ((i : Int) + 1))) true) :
    ∀ (d j : Nat), bs.length - j = d → j ≤ bs.length → Ev (fun k => wimplelaw16_ServeOnce.l3 k hs bs ads n (wantS hs bs) (i : Int) (j : Int)) true := by
  intro d
  induction d with
  | zero =>
    intro j hd hj
    refine Ev.step (fun k => by simp only [wimplelaw16_ServeOnce.l3]; rfl) ?_
    exact Ev.neg (by omega) next
  | succ d ih =>
    intro j hd hj
    have hjl : j < bs.length := by omega
    have ih1 := ih (j + 1) (by omega) (by omega)
    have hmem : (wantS hs bs)[i] ∈ wantS hs bs := List.getElem_mem hi
    have hmem2 := List.mem_filter.1 hmem
    have hz := hsz _ hmem2.1
    have hq : want1 bs (wantS hs bs)[i] = true := hmem2.2
    refine Ev.step (fun k => by simp only [wimplelaw16_ServeOnce.l3]; rfl) ?_
    simp only [rdS hi, rd61 hjl, w_inc j (by omega)]
    generalize (wantS hs bs)[i] = x at *
    refine Ev.pos (by omega) (Ev.pos (by omega) (Ev.pos (by omega) (Ev.pos (by omega) ?_)))
    by_cases h1 : x.toList = bs[j].f1.toList
    · refine Ev.pos h1 ?_
      by_cases h2 : x.toList = []
      · exact Ev.pos h2 ih1
      · refine Ev.neg h2 ?_
        by_cases h3 : (x.size : Int) > 1
        · refine Ev.pos h3 ?_
          have hw : wrap64 ((x.size : Int) - 1) = (x.size : Int) - 1 := w64 _ (by omega)
          simp only [hw]
          refine Ev.pos (by omega) (Ev.pos (by omega) ?_)
          by_cases h4 : bt x ((x.size : Int) - 1) = 0
          · refine Ev.pos h4 ?_
            obtain ⟨b, hb1, hb2⟩ := single_some x (by omega) hz
            refine Ev.bindp hb1 ?_
            cases b with
            | false => exact Ev.neg (by decide) ih1
            | true =>
              exfalso
              have hnm := hb2 rfl h4
              obtain ⟨ls, hls⟩ := Option.ne_none_iff_exists'.1 hnm
              rw [toL, toL] at h1
              have hsame : sameS (B bs[j].f1) (B x) = true := by
                rw [← h1, sameS_some hls hls]
                simp
              have hany : bs.any (hasB x) = true := by
                rw [List.any_eq_true]
                exact ⟨_, List.getElem_mem hjl, hsame⟩
              unfold want1 at hq
              rw [hany] at hq
              simp at hq
          · exact Ev.neg h4 ih1
        · exact Ev.neg h3 ih1
    · exact Ev.neg h1 ih1
theorem once_l2 (hl : hs.length ≤ 8796093021952) (hb : bs.length ≤ 2199023255488) (hsz : ∀ h ∈ hs, h.size ≤ 9223372036854775807) :
    ∀ (d i : Nat), (wantS hs bs).length - i = d → i ≤ (wantS hs bs).length → Ev (fun k => wimplelaw16_ServeOnce.l2 k hs bs (addrsS bs) ((addrsS bs).length : Int) (wantS hs bs) (i : Int)) true := by
  have hwl : (wantS hs bs).length ≤ hs.length := List.length_filter_le _ _
  intro d
  induction d with
  | zero =>
    intro i hd hi
    refine Ev.step (fun k => by simp only [wimplelaw16_ServeOnce.l2]; rfl) ?_
    have h0 : wantS hs [] = hs := by
      unfold wantS
      rw [List.filter_eq_self]
      intro a _
      rfl
    refine Ev.neg (by omega) (Ev.pos (by trivial) (Ev.bindp (want_f hs [] hl) ?_))
    simp only [h0]
    exact Ev.bind (SameT_refl hs (by omega)) (Ev.pure _)
  | succ d ih =>
    intro i hd hi
    have ih1 := ih (i + 1) (by omega) (by omega)
    refine Ev.step (fun k => by simp only [wimplelaw16_ServeOnce.l2]; rfl) ?_
    refine Ev.pos (by omega) ?_
    refine once_l3 hs bs hl hb hsz _ _ i (by omega) ?_ bs.length 0 (by omega) (by omega)
    rw [w_inc i (by omega)]
    exact ih1
theorem once_l1 (hb : bs.length ≤ 2199023255488) (i : Nat) (hi : i < bs.length) (n : Nat) (hn : n = (addrsS (bs.take i)).length) (next : Ev (fun k => wimplelaw16_ServeOnce.l0 k hs bs (addrsS bs) ((addrsS (bs.take (i + 1))).length : Int) ((i + 1 : Nat) : Int)) true) :
    ∀ (d j : Nat), i - j = d → j ≤ i → Ev (fun k => wimplelaw16_ServeOnce.l1 k hs bs (addrsS bs) (n : Int) (i : Int) (fst1 bs i j) (j : Int)) true := by
  intro d
  induction d with
  | zero =>
    intro j hd hj
    obtain rfl : j = i := by omega
    have hnl := addrs_le bs j (by omega)
    refine Ev.step (fun k => by simp only [wimplelaw16_ServeOnce.l1]; rfl) ?_
    refine Ev.neg (by omega) ?_
    simp only [w_inc j (by omega), w_inc n (by omega), rd61 hi]
    have hnx := addrs_next hi
    by_cases hf : fst1 bs j j = true
    · refine Ev.pos hf ?_
      have hnot := (fst1_mem hi).1 hf
      have hst : stepA (addrsS (bs.take j)) bs[j] = addrsS (bs.take j) ++ [bs[j].f2] := by unfold stepA; rw [if_neg hnot]
      have hp := addrs_pre bs (j + 1)
      rw [hnx, hst] at hp
      obtain ⟨r, hr⟩ := hp
      have hlen : n < (addrsS bs).length := by rw [← hr, hn]; simp
      have hat : (addrsS bs)[n] = bs[j].f2 := by
        have : (addrsS bs)[n]? = some bs[j].f2 := by
          rw [← hr, hn, List.append_assoc, List.getElem?_append_right (Nat.le_refl _), Nat.sub_self]
          rfl
        rw [List.getElem?_eq_getElem hlen] at this
        exact Option.some.inj this
      simp only [rdI hlen, hat]
      refine Ev.neg (by omega) (Ev.pos (by omega) (Ev.pos (by omega) (Ev.pos (by omega) (Ev.pos (by omega) (Ev.pos (by trivial) ?_)))))
      rw [hnx, hst, List.length_append, ← hn] at next
      exact next
    · refine Ev.neg hf ?_
      have hin : bs[j].f2 ∈ addrsS (bs.take j) := by
        apply Decidable.byContradiction
        intro hc
        exact hf ((fst1_mem hi).2 hc)
      have hst : stepA (addrsS (bs.take j)) bs[j] = addrsS (bs.take j) := by unfold stepA; rw [if_pos hin]
      rw [hnx, hst, ← hn] at next
      exact next
  | succ d ih =>
    intro j hd hj
    have ih1 := ih (j + 1) (by omega) (by omega)
    rw [fst1_next] at ih1
    refine Ev.step (fun k => by simp only [wimplelaw16_ServeOnce.l1]; rfl) ?_
    refine Ev.pos (by omega) ?_
    simp only [w_inc j (by omega)]
    cases hf : fst1 bs i j with
    | true =>
      rw [hf, Bool.true_and] at ih1
      exact Ev.pos (by trivial) (Ev.pos (by omega) (Ev.pos (by omega) (Ev.pos (by omega) (Ev.pos (by omega) ih1))))
    | false =>
      rw [hf, Bool.false_and] at ih1
      exact Ev.neg (by decide) ih1
theorem once_l0 (hl : hs.length ≤ 8796093021952) (hb : bs.length ≤ 2199023255488) (hsz : ∀ h ∈ hs, h.size ≤ 9223372036854775807) :
    ∀ (d i : Nat), bs.length - i = d → i ≤ bs.length → Ev (fun k => wimplelaw16_ServeOnce.l0 k hs bs (addrsS bs) ((addrsS (bs.take i)).length : Int) (i : Int)) true := by
  intro d
  induction d with
  | zero =>
    intro i hd hi
    obtain rfl : i = bs.length := by omega
    rw [List.take_length]
    refine Ev.step (fun k => by simp only [wimplelaw16_ServeOnce.l0]; rfl) ?_
    exact Ev.neg (by omega) (Ev.bindp (want_f hs bs hl) (once_l2 hs bs hl hb hsz _ 0 rfl (by omega)))
  | succ d ih =>
    intro i hd hi
    have ih1 := ih (i + 1) (by omega) (by omega)
    refine Ev.step (fun k => by simp only [wimplelaw16_ServeOnce.l0]; rfl) ?_
    refine Ev.pos (by omega) ?_
    exact once_l1 hs bs hb i (by omega) _ rfl ih1 i 0 (by omega) (by omega)
theorem ServeOnce_ev (hl : hs.length ≤ 8796093021952) (hb : bs.length ≤ 2199023255488) (hsz : ∀ h ∈ hs, h.size ≤ 9223372036854775807) (hw : ∀ b ∈ bs, (Lit.int .i64 b.f2).wf = true) : Ev (fun k => wimplelaw16_ServeOnce.f k hs bs) true := by
  unfold wimplelaw16_ServeOnce.f
  exact Ev.bind awake16_ev (Ev.pos rfl (Ev.bindp (addr_f bs hb hw) (once_l0 hs bs hl hb hsz bs.length 0 (by omega) (by omega))))
end
end Go.Proofs.Ytimkafkiphfacaa.M
