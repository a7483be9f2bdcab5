/- What the reference's places, May and Count answer. -/
import Derived.Test.YtojjkgnkdcekpaaSPlaces
import Derived.Test.YtojjkgnkdcekpaaPx6

namespace Go.Proofs.Ytojjkgnkdcekpaa.M
open Go Go.RowKit Go.Proofs.YtojjkgnkdcekpaaW.PrintWords Go.Proofs.Ytojjkgnkdcekpaa.P

theorem refplaces_l0 (s : ByteArray) (hs : s.size ≤ 255) : ∀ (d i : Nat) (out : List Int), (B s).length - i ≤ d → i ≤ 400 → out.length ≤ i →
    ∃ r, Ev (fun k => wimpleref1_places.l0 k s out (i : Int)) (r, (dec ((B s).drop i)).isSome) ∧ ∀ ls, dec ((B s).drop i) = some ls → r = out ++ offs i ls := by
  intro d
  have ended : ∀ (i : Nat) (out : List Int), (B s).drop i = [] → ∃ r, Ev (fun k => wimpleref1_places.l0 k s out (i : Int)) (r, (dec ((B s).drop i)).isSome) ∧ ∀ ls, dec ((B s).drop i) = some ls → r = out ++ offs i ls := by
    intro i out hnil
    rw [hnil, dec_nil]
    rw [List.drop_eq_nil_iff] at hnil
    have hsz := sz s
    refine ⟨[], ?_, fun ls h => by cases h⟩
    refine Ev.step (fun k => by simp only [wimpleref1_places.l0]; rfl) ?_
    refine Ev.neg (by omega) ?_
    refine Ev.step (fun k => by simp only [wimpleref1_places.j1]; rfl) ?_
    exact Ev.neg (by simp) (Ev.pure _)
  induction d with
  | zero =>
    intro i out hd hi ho
    exact ended i out (List.drop_eq_nil_of_le (by omega))
  | succ d ih =>
    intro i out hd hi ho
    have hsz := sz s
    cases hdr : (B s).drop i with
    | nil =>
      have := ended i out hdr
      rw [hdr] at this
      exact this
    | cons c r =>
      obtain ⟨hb, hlt, hr⟩ := bt_drop s i c r hdr
      have hc := c.toNat_lt
      have hlen : r.length = (B s).length - (i + 1) := by rw [← hr, List.length_drop]
      by_cases hz : c = 0
      · subst hz
        rw [dec_zero]
        refine ⟨out ++ [(i : Int)], ?_, ?_⟩
        · refine Ev.step (fun k => by simp only [wimpleref1_places.l0]; rfl) ?_
          refine Ev.pos (by omega) ?_
          refine Ev.step (fun k => by simp only [wimpleref1_places.j1]; rfl) ?_
          refine Ev.pos (decide_eq_true (by omega)) ?_
          refine Ev.pos (by omega) ?_
          refine Ev.pos (by omega) ?_
          refine Ev.pos (by omega) ?_
          refine Ev.bindp rfl ?_
          refine Ev.pos (by rw [hb, w64b]; rfl) ?_
          refine Ev.eq (Ev.pure _) ?_
          rw [w64 _ (by omega)]
          by_cases hrn : r = []
          · rw [if_pos hrn]
            subst hrn
            simp only [Option.isSome_some, Prod.mk.injEq, true_and, beq_iff_eq]
            simp only [List.length_nil] at hlen
            omega
          · rw [if_neg hrn]
            have : 0 < r.length := List.length_pos_iff.2 hrn
            simp only [Option.isSome_none, Prod.mk.injEq, true_and, beq_eq_false_iff_ne]
            omega
        · intro ls h
          by_cases hrn : r = []
          · rw [if_pos hrn] at h
            cases h
            rfl
          · rw [if_neg hrn] at h
            cases h
      · have hz0 : ¬ (wrap64 (bt s (i : Int)) = 0) := by rw [hb, w64b]; have := u8_zero hz; omega
        have hn0 := u8_zero hz
        by_cases h63 : 63 < c.toNat
        · rw [dec_long r h63]
          refine ⟨[], ?_, fun ls h => by cases h⟩
          refine Ev.step (fun k => by simp only [wimpleref1_places.l0]; rfl) ?_
          refine Ev.pos (by omega) ?_
          refine Ev.step (fun k => by simp only [wimpleref1_places.j1]; rfl) ?_
          refine Ev.pos (decide_eq_true (by omega)) ?_
          refine Ev.pos (by omega) ?_
          refine Ev.pos (by omega) ?_
          refine Ev.pos (by omega) ?_
          refine Ev.bindp rfl ?_
          refine Ev.neg hz0 ?_
          exact Ev.pos (by rw [hb, w64b]; omega) (Ev.pure _)
        · rw [dec_step r hz (by omega)]
          have hdr2 : (B s).drop (i + 1 + c.toNat) = r.drop c.toNat := by rw [← hr, List.drop_drop]
          obtain ⟨q, hq, hqs⟩ := ih (i + 1 + c.toNat) (out ++ [(i : Int)]) (by omega) (by omega) (by simp; omega)
          rw [hdr2] at hq hqs
          refine ⟨q, ?_, ?_⟩
          · refine Ev.step (fun k => by simp only [wimpleref1_places.l0]; rfl) ?_
            refine Ev.pos (by omega) ?_
            refine Ev.step (fun k => by simp only [wimpleref1_places.j1]; rfl) ?_
            refine Ev.pos (decide_eq_true (by omega)) ?_
            refine Ev.pos (by omega) ?_
            refine Ev.pos (by omega) ?_
            refine Ev.pos (by omega) ?_
            refine Ev.bindp rfl ?_
            refine Ev.neg hz0 ?_
            refine Ev.neg (by rw [hb, w64b]; omega) ?_
            refine Ev.eq (Ev.congr (fun k => ?_) hq) ?_
            · congr 1
              rw [hb, w64b, w64 ((i : Int) + 1) (by omega), w64 _ (by omega)]
              omega
            · simp
          · intro ls h
            cases hd2 : dec (r.drop c.toNat) with
            | none => rw [hd2] at h; cases h
            | some q2 =>
              rw [hd2] at h
              simp only [Option.map_some, Option.some.injEq] at h
              subst h
              rw [hqs q2 hd2]
              have hlt2 : c.toNat < r.length := by
                rcases Nat.lt_or_ge c.toNat r.length with h' | h'
                · exact h'
                · rw [List.drop_eq_nil_of_le h', dec_nil] at hd2; cases hd2
              have htl : (r.take c.toNat).length = c.toNat := by rw [List.length_take]; omega
              simp [offs, htl]

theorem refplaces_ev (s : ByteArray) : ∃ r, Ev (fun k => wimpleref1_places.f k s) (r, (nm (B s)).isSome) ∧ ∀ ls, nm (B s) = some ls → r = offs 0 ls := by
  have hsz := sz s
  unfold nm
  by_cases h : (B s).length ≤ 255
  · rw [if_pos h]
    obtain ⟨r, h1, h2⟩ := refplaces_l0 s (by omega) (B s).length 0 [] (by omega) (by omega) (by simp)
    rw [List.drop_zero] at h1 h2
    exact ⟨r, by unfold wimpleref1_places.f; exact h1, by simpa using h2⟩
  · rw [if_neg h]
    refine ⟨[], ?_, fun ls h => by cases h⟩
    unfold wimpleref1_places.f
    refine Ev.step (fun k => by simp only [wimpleref1_places.l0]; rfl) ?_
    refine Ev.pos (by omega) ?_
    refine Ev.step (fun k => by simp only [wimpleref1_places.j1]; rfl) ?_
    exact Ev.neg (by simp; omega) (Ev.pure _)

theorem refMay_ev (s : ByteArray) : Ev (fun k => wimpleref1_May.f k s) (nm (B s)).isSome := by
  obtain ⟨r, h1, _⟩ := refplaces_ev s
  unfold wimpleref1_May.f
  exact Ev.bind h1 (Ev.pure _)

end Go.Proofs.Ytojjkgnkdcekpaa.M
