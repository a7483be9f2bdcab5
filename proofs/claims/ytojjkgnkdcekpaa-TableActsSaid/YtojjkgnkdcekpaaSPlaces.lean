/- What name.Places, name.Labels and the reference's places answer, in plain words. -/
import Derived.Test.YtojjkgnkdcekpaaMNames
import Derived.Test.YtojjkgnkdcekpaaPx2
import Derived.Test.YtojjkgnkdcekpaaPx3
import Derived.Test.YtojjkgnkdcekpaaWWords
import Derived.Laws.BytesArg
import Derived.Laws.Strings
import Derived.Lib.Strings
namespace Go.Proofs.Ytojjkgnkdcekpaa.M
open Go Go.RowKit Go.Proofs.YtojjkgnkdcekpaaW.PrintWords

/-- A string's bytes. -/
abbrev B (s : ByteArray) : List UInt8 := s.data.toList
def mkB (l : List UInt8) : ByteArray := ⟨l.toArray⟩

theorem B_mk (l : List UInt8) : B (mkB l) = l := rfl
theorem mk_B (s : ByteArray) : mkB (B s) = s := by
  obtain ⟨⟨l⟩⟩ := s
  rfl
theorem B_inj {s t : ByteArray} (h : B s = B t) : s = t := by rw [← mk_B s, ← mk_B t, h]
theorem toL (s : ByteArray) : s.toList = B s := ByteArray.toList_eq s
theorem sz (s : ByteArray) : s.size = (B s).length := by rw [Array.length_toList]; rfl
theorem sz_mk (l : List UInt8) : (mkB l).size = l.length := by simp [mkB, ByteArray.size]
theorem B_append (s t : ByteArray) : B (s ++ t) = B s ++ B t := by simp [B]
theorem mk_append (a b : List UInt8) : mkB a ++ mkB b = mkB (a ++ b) := B_inj (by rw [B_append]; rfl)
theorem B_extract (s : ByteArray) (a b : Nat) : B (s.extract a b) = ((B s).drop a).take (b - a) := Lib.extract_data s a b
theorem B_strOfNums (xs : List Int) : B (strOfNums xs) = xs.map fun n => UInt8.ofNat n.toNat := rfl

theorem bt_get (s : ByteArray) (i : Nat) (h : i < s.size) : bt s (i : Int) = (((B s)[i]'(by rw [← sz]; exact h)).toNat : Int) := by
  unfold bt
  rw [dif_pos (by simpa using h)]
  rfl

theorem bt_drop (s : ByteArray) (i : Nat) (c : UInt8) (r : List UInt8) (h : (B s).drop i = c :: r) : bt s (i : Int) = (c.toNat : Int) ∧ i < s.size ∧ (B s).drop (i + 1) = r := by
  have hlt : i < (B s).length := by
    rcases Nat.lt_or_ge i (B s).length with h' | h'
    · exact h'
    · rw [List.drop_eq_nil_of_le h'] at h; cases h
  rw [List.drop_eq_getElem_cons hlt] at h
  injection h with h1 h2
  refine ⟨?_, by rw [sz]; exact hlt, h2⟩
  rw [bt_get s i (by rw [sz]; exact hlt), h1]

theorem w64 (n : Int) (h : -9223372036854775808 ≤ n ∧ n ≤ 9223372036854775807) : wrap64 n = n := by unfold wrap64; omega
theorem w64b (c : UInt8) : wrap64 (c.toNat : Int) = (c.toNat : Int) := by have := c.toNat_lt; exact w64 _ (by omega)

theorem w_succ (i : Nat) (h : i ≤ 4611686018427387904) : wrap64 ((i : Int) + 1) = ((i + 1 : Nat) : Int) := by rw [w64 _ (by omega)]; omega
theorem w_pred (i : Nat) (h : i ≤ 4611686018427387904) : wrap64 (((i + 1 : Nat) : Int) - 1) = (i : Int) := by rw [w64 _ (by omega)]; omega
theorem w_add (i j : Nat) (h : i ≤ 4611686018427387903) (h' : j ≤ 4611686018427387903) : wrap64 ((i : Int) + (j : Int)) = ((i + j : Nat) : Int) := by rw [w64 _ (by omega)]; omega
theorem w_nat (i : Nat) (h : i ≤ 4611686018427387904) : wrap64 (i : Int) = (i : Int) := w64 _ (by omega)

section
variable {α β : Type}
theorem Ev.pos {c : Prop} [Decidable c] {g f : Nat → Option α} {r : α} (h : c) (k : Ev g r) : Ev (fun n => if c then g n else f n) r := Ev.congr (fun _ => if_pos h) k
theorem Ev.neg {c : Prop} [Decidable c] {g f : Nat → Option α} {r : α} (h : ¬ c) (k : Ev f r) : Ev (fun n => if c then g n else f n) r := Ev.congr (fun _ => if_neg h) k
theorem Ev.pure (r : α) : Ev (fun _ => some r) r := ⟨0, fun _ _ => rfl⟩
theorem Ev.bindp {g : Option α} {f : Nat → α → Option β} {a : α} {r : β} (h : g = some a) (k : Ev (fun n => f n a) r) : Ev (fun n => g.bind (f n)) r := by
  subst h
  exact k
theorem Ev.eq {g : Nat → Option α} {r r' : α} (h : Ev g r) (e : r = r') : Ev g r' := e ▸ h
theorem Ev.const {g : Option α} {r : α} (h : g = some r) : Ev (fun _ => g) r := ⟨0, fun _ _ => h⟩
end

theorem b_eq (a b : UInt8) : ((a.toNat : Int) = (b.toNat : Int)) ↔ a = b := ⟨fun h => UInt8.toNat_inj.1 (by omega), fun h => by rw [h]⟩

end Go.Proofs.Ytojjkgnkdcekpaa.M

namespace Go.Proofs.Ytojjkgnkdcekpaa.M
open Go Go.RowKit Go.Proofs.YtojjkgnkdcekpaaW.PrintWords Go.Proofs.Ytojjkgnkdcekpaa.P

theorem u8_zero {c : UInt8} (h : c ≠ 0) : c.toNat ≠ 0 := fun e => h (UInt8.toNat_inj.1 (by simpa using e))

theorem places_l0 (s : ByteArray) (hs : s.size ≤ 255) : ∀ (d i : Nat) (out : List Int), (B s).length - i ≤ d → i ≤ 400 → out.length ≤ i →
    ∃ r, Ev (fun k => name_Places.l0 k s out (i : Int)) (r, (dec ((B s).drop i)).isSome) ∧ ∀ ls, dec ((B s).drop i) = some ls → r = out ++ offs i ls := by
  intro d
  induction d with
  | zero =>
    intro i out hd hi ho
    have hsz := sz s
    have hnil : (B s).drop i = [] := List.drop_eq_nil_of_le (by omega)
    rw [hnil, dec_nil]
    have h1 : ¬ ((i : Int) < (s.size : Int)) := by omega
    by_cases h0 : (s.size : Int) > 0
    · refine ⟨out, Ev.step (fun k => by simp only [name_Places.l0]; rfl) (Ev.neg h1 (Ev.pos h0 (Ev.eq (Ev.pure _) ?_))), fun ls h => by cases h⟩
      rw [w64 _ (by omega)]
      simp only [Option.isSome_none, Prod.mk.injEq, true_and, beq_eq_false_iff_ne]
      omega
    · refine ⟨out, Ev.step (fun k => by simp only [name_Places.l0]; rfl) (Ev.neg h1 (Ev.neg h0 (Ev.pure _))), fun ls h => by cases h⟩
  | succ d ih =>
    intro i out hd hi ho
    have hsz := sz s
    cases hdr : (B s).drop i with
    | nil =>
      have hnil := hdr
      rw [List.drop_eq_nil_iff] at hnil
      rw [dec_nil]
      have h1 : ¬ ((i : Int) < (s.size : Int)) := by omega
      by_cases h0 : (s.size : Int) > 0
      · refine ⟨out, Ev.step (fun k => by simp only [name_Places.l0]; rfl) (Ev.neg h1 (Ev.pos h0 (Ev.eq (Ev.pure _) ?_))), fun ls h => by cases h⟩
        rw [w64 _ (by omega)]
        simp only [Option.isSome_none, Prod.mk.injEq, true_and, beq_eq_false_iff_ne]
        omega
      · refine ⟨out, Ev.step (fun k => by simp only [name_Places.l0]; rfl) (Ev.neg h1 (Ev.neg h0 (Ev.pure _))), fun ls h => by cases h⟩
    | cons c r =>
      obtain ⟨hb, hlt, hr⟩ := bt_drop s i c r hdr
      have hc := c.toNat_lt
      have h1 : (i : Int) < (s.size : Int) := by omega
      have h0 : (s.size : Int) > 0 := by omega
      have hlen : r.length = (B s).length - (i + 1) := by rw [← hr, List.length_drop]
      by_cases hz : c = 0
      · subst hz
        rw [dec_zero]
        refine ⟨out ++ [(i : Int)], Ev.step (fun k => by simp only [name_Places.l0]; rfl) (Ev.pos h1 (Ev.pos (by omega) (Ev.bindp rfl (Ev.pos (by omega) (Ev.pos (by rw [hb, w64b]; rfl) (Ev.pos h0 (Ev.eq (Ev.pure _) ?_))))))), ?_⟩
        · rw [w64 _ (by omega)]
          by_cases hrn : r = []
          · rw [if_pos hrn]
            subst hrn
            simp only [Option.isSome_some, Prod.mk.injEq, true_and, beq_iff_eq]
            simp only [List.length_nil] at hlen
            omega
          · rw [if_neg hrn]
            have : 0 < r.length := List.length_pos_iff.2 hrn
            simp only [Option.isSome_none, Prod.mk.injEq, true_and, beq_eq_false_iff_ne]
            omega
        · intro ls h
          by_cases hrn : r = []
          · rw [if_pos hrn] at h
            cases h
            rfl
          · rw [if_neg hrn] at h
            cases h
      · have hz0 : ¬ (wrap64 (bt s (i : Int)) = 0) := by rw [hb, w64b]; have := u8_zero hz; omega
        by_cases h63 : 63 < c.toNat
        · rw [dec_long r h63]
          exact ⟨[], Ev.step (fun k => by simp only [name_Places.l0]; rfl) (Ev.pos h1 (Ev.pos (by omega) (Ev.bindp rfl (Ev.pos (by omega) (Ev.neg hz0 (Ev.pos (by rw [hb, w64b]; omega) (Ev.pure _))))))), fun ls h => by cases h⟩
        · rw [dec_step r hz (by omega)]
          have hn0 := u8_zero hz
          have hdr2 : (B s).drop (i + 1 + c.toNat) = r.drop c.toNat := by rw [← hr, List.drop_drop]
          obtain ⟨q, hq, hqs⟩ := ih (i + 1 + c.toNat) (out ++ [(i : Int)]) (by omega) (by omega) (by simp; omega)
          rw [hdr2] at hq hqs
          refine ⟨q, Ev.step (fun k => by simp only [name_Places.l0]; rfl) (Ev.pos h1 (Ev.pos (by omega) (Ev.bindp rfl (Ev.pos (by omega) (Ev.neg hz0 (Ev.neg (by rw [hb, w64b]; omega) (Ev.eq (Ev.congr (fun k => ?_) hq) ?_))))))), ?_⟩
          · congr 1
            rw [hb, w64b, w64 (1 + _) (by omega), w64 _ (by omega)]
            omega
          · simp
          · intro ls h
            cases hd2 : dec (r.drop c.toNat) with
            | none => rw [hd2] at h; cases h
            | some q2 =>
              rw [hd2] at h
              simp only [Option.map_some, Option.some.injEq] at h
              subst h
              rw [hqs q2 hd2]
              have hlt2 : c.toNat < r.length := by
                rcases Nat.lt_or_ge c.toNat r.length with h' | h'
                · exact h'
                · rw [List.drop_eq_nil_of_le h', dec_nil] at hd2; cases hd2
              have htl : (r.take c.toNat).length = c.toNat := by rw [List.length_take]; omega
              simp [offs, htl]

/-- name.Places: where a name's labels begin; of what is none: false. -/
theorem Places_ev (s : ByteArray) : ∃ r, Ev (fun k => name_Places.f k s) (r, (nm (B s)).isSome) ∧ ∀ ls, nm (B s) = some ls → r = offs 0 ls := by
  have hsz := sz s
  unfold nm
  by_cases h : (B s).length ≤ 255
  · rw [if_pos h]
    obtain ⟨r, h1, h2⟩ := places_l0 s (by omega) (B s).length 0 [] (by omega) (by omega) (by simp)
    rw [List.drop_zero] at h1 h2
    exact ⟨r, by unfold name_Places.f; exact Ev.neg (by omega) h1, by simpa using h2⟩
  · rw [if_neg h]
    exact ⟨[], by unfold name_Places.f; exact Ev.pos (by omega) (Ev.pure _), fun ls h => by cases h⟩

theorem label_at (ls : List Bytes) (i : Nat) (h : i < ls.length) : ((wire ls).drop (off ls i + 1)).take (ls[i].length) = ls[i] := by
  have h1 := drop_off ls i (by omega)
  rw [← List.drop_drop, h1, List.drop_eq_getElem_cons h, wire]
  simp

theorem rd_offs (ls : List Bytes) (i : Nat) (h : i ≤ ls.length) : rd (offs 0 ls) (i : Int) = ((off ls i : Nat) : Int) := by
  unfold rd
  rw [Int.toNat_natCast, offs_get 0 ls i h]
  simp

theorem labels_l0 (s : ByteArray) (ls : List Bytes) (hs : s.size ≤ 255) (hg : Good ls) (hw : wire ls = B s) : ∀ (d i : Nat), ls.length - i = d → i ≤ ls.length →
    Ev (fun k => name_Labels.l0 k s (offs 0 ls) ((ls.take i).map mkB) (((i + 1 : Nat)) : Int)) (ls.map mkB, true) := by
  intro d
  have hsz := sz s
  have hcnt := wire_count ls hg
  rw [hw] at hcnt
  have hol : (offs 0 ls).length = ls.length + 1 := offs_length 0 ls
  induction d with
  | zero =>
    intro i hd hi
    obtain rfl : i = ls.length := by omega
    refine Ev.step (fun k => by simp only [name_Labels.l0]; rfl) ?_
    refine Ev.neg (by omega) ?_
    rw [List.take_length]
    exact Ev.pure _
  | succ d ih =>
    intro i hd hi
    have hlt : i < ls.length := by omega
    have o0 := off_lt ls i (by omega)
    have o1 := off_lt ls (i + 1) (by omega)
    have os := off_succ ls i hlt
    have hll := hg _ (List.getElem_mem hlt)
    rw [hw] at o0 o1
    have h := ih (i + 1) (by omega) (by omega)
    have e1 : wrap64 (((i + 1 : Nat) : Int) - 1) = (i : Int) := by rw [w64 _ (by omega)]; omega
    have r0 := rd_offs ls i (by omega)
    have r1 := rd_offs ls (i + 1) (by omega)
    have e2 : wrap64 (((off ls i : Nat) : Int) + 1) = ((off ls i + 1 : Nat) : Int) := by rw [w64 _ (by omega)]; omega
    have e3 : wrap64 (((i + 1 : Nat) : Int) + 1) = ((i + 1 + 1 : Nat) : Int) := by rw [w64 _ (by omega)]; omega
    refine Ev.step (fun k => by simp only [name_Labels.l0]; rfl) ?_
    simp only [e1, r0, r1, e2, e3, Int.toNat_natCast]
    clear e1 r0 r1 e2 e3
    refine Ev.pos (by omega) ?_
    refine Ev.pos (by omega) ?_
    refine Ev.pos (by omega) ?_
    refine Ev.pos (by omega) ?_
    refine Ev.pos (by omega) ?_
    refine Ev.pos (by omega) ?_
    refine Ev.pos (by omega) ?_
    refine Ev.pos (by simp; omega) ?_
    refine Ev.congr (fun k => ?_) h
    congr 1
    rw [List.take_succ_eq_append_getElem hlt, List.map_append]
    congr 1
    simp only [List.map_cons, List.map_nil, List.cons.injEq, and_true]
    apply B_inj
    rw [B_extract, ← hw, B_mk, show off ls (i + 1) - (off ls i + 1) = ls[i].length from by omega, label_at ls i hlt]

/-- name.Labels. -/
theorem Labels_ev (s : ByteArray) : Ev (fun k => name_Labels.f k s) (match nm (B s) with | some ls => (ls.map mkB, true) | none => ([], false)) := by
  obtain ⟨r, h1, h2⟩ := Places_ev s
  unfold name_Labels.f
  cases h : nm (B s) with
  | none =>
    rw [h] at h1
    exact Ev.bind h1 (Ev.neg (by simp) (Ev.pure _))
  | some ls =>
    rw [h] at h1
    obtain rfl := h2 ls h
    obtain ⟨hg, hw, hl⟩ := nm_some.1 h
    exact Ev.bind h1 (Ev.pos rfl (labels_l0 s ls (by rw [sz]; exact hl) hg hw ls.length 0 (by omega) (by omega)))

theorem May_ev (s : ByteArray) : Ev (fun k => name_May.f k s) (nm (B s)).isSome := by
  obtain ⟨r, h1, _⟩ := Places_ev s
  unfold name_May.f
  exact Ev.bind h1 (Ev.pure _)

def cnt (s : Bytes) : Int := match nm s with
  | some ls => (ls.length : Int)
  | none => 0

theorem nm_count {s : Bytes} {ls : List Bytes} (h : nm s = some ls) : 2 * ls.length + 1 ≤ s.length ∧ s.length ≤ 255 := by
  obtain ⟨hg, hw, hl⟩ := nm_some.1 h
  have := wire_count ls hg
  rw [hw] at this
  exact ⟨this, hl⟩



end Go.Proofs.Ytojjkgnkdcekpaa.M
