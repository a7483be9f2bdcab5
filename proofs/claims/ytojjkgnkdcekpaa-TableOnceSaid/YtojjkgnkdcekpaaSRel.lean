/- What package rel and the reference answer: folding, sameness, order among names. -/
import Derived.Test.YtojjkgnkdcekpaaSRefPlaces
import Derived.Test.YtojjkgnkdcekpaaMOrder
import Derived.Test.YtojjkgnkdcekpaaPx4
import Derived.Test.YtojjkgnkdcekpaaPx5
import Derived.Test.YtojjkgnkdcekpaaPx7
import Derived.Test.YtojjkgnkdcekpaaPx8

set_option linter.unusedVariables false
set_option linter.unusedSimpArgs false
namespace Go.Proofs.Ytojjkgnkdcekpaa.M
open Go Go.RowKit Go.Proofs.YtojjkgnkdcekpaaW.PrintWords Go.Proofs.Ytojjkgnkdcekpaa.P

theorem short_labels {s : Bytes} {ls : List Bytes} (h : nm s = some ls) : ls.length ≤ 127 ∧ ∀ l ∈ ls, l.length ≤ 63 := by
  have := nm_count h
  exact ⟨by omega, fun l hl => ((nm_some.1 h).1 l hl).2⟩

theorem map_B_mk (ls : List Bytes) : (ls.map mkB).map (fun l => fol l.data.toList) = ls.map fol := by
  rw [List.map_map]
  exact List.map_congr_left (fun x _ => congrArg fol (B_mk x))

theorem Fold_ev (s : ByteArray) : Ev (fun k => rel_Fold.f k s) (mkB (fold (B s))) := by
  have h1 := Labels_ev s
  unfold rel_Fold.f
  cases h : nm (B s) with
  | none =>
    rw [h] at h1
    rw [fold_none h]
    exact Ev.bind h1 (Ev.neg (by simp) (Ev.pure _))
  | some ls =>
    rw [h] at h1
    obtain ⟨g1, g2⟩ := short_labels h
    rw [fold_some h]
    refine Ev.bind h1 (Ev.pos rfl (Ev.pos ⟨by simp; omega, ?_⟩ (Ev.eq (Ev.pure _) ?_)))
    · intro l hl
      obtain ⟨x, hx, rfl⟩ := List.mem_map.1 hl
      have := g2 x hx
      rw [sz_mk]
      omega
    · unfold foldB
      rw [map_B_mk]
      rfl

theorem refFold_ev (s : ByteArray) : Ev (fun k => wimpleref1_Fold.f k s) (mkB (fold (B s))) := by
  obtain ⟨r, h1, h2⟩ := refplaces_ev s
  unfold wimpleref1_Fold.f
  cases h : nm (B s) with
  | none =>
    rw [h] at h1
    rw [fold_none h]
    exact Ev.bind h1 (Ev.neg (by simp) (Ev.pure _))
  | some ls =>
    rw [h] at h1
    have hr := h2 ls h
    subst hr
    refine Ev.bind h1 (Ev.pos rfl (Ev.pos ?_ (Ev.pure _)))
    exact ⟨by first | rfl | (rw [h]; rfl), by first | rfl | (rw [h]; rfl)⟩

theorem fold_inj {a b : Bytes} {x y : List Bytes} (ha : nm a = some x) (hb : nm b = some y) : fold a = fold b ↔ x.map fol = y.map fol := by
  rw [fold_some ha, fold_some hb]
  exact ⟨fun h => wire_inj (good_fold (nm_some.1 ha).1) (good_fold (nm_some.1 hb).1) h, fun h => by rw [h]⟩

/-- Are names the same? -/
def sameS (a b : Bytes) : Bool := match nm a, nm b with
  | some x, some y => decide (x.map fol = y.map fol)
  | _, _ => false

/-- Is a name above another one? -/
def aboveS (a b : Bytes) : Bool := match nm a, nm b with
  | some x, some y => decide (x.map fol <:+ y.map fol)
  | _, _ => false

theorem sameS_some {a b : Bytes} {x y : List Bytes} (ha : nm a = some x) (hb : nm b = some y) : sameS a b = decide (x.map fol = y.map fol) := by unfold sameS; rw [ha, hb]
theorem sameS_left {a b : Bytes} (ha : nm a = none) : sameS a b = false := by unfold sameS; rw [ha]
theorem sameS_right {a b : Bytes} (hb : nm b = none) : sameS a b = false := by unfold sameS; rw [hb]; cases nm a <;> rfl
theorem aboveS_some {a b : Bytes} {x y : List Bytes} (ha : nm a = some x) (hb : nm b = some y) : aboveS a b = decide (x.map fol <:+ y.map fol) := by unfold aboveS; rw [ha, hb]
theorem aboveS_left {a b : Bytes} (ha : nm a = none) : aboveS a b = false := by unfold aboveS; rw [ha]
theorem aboveS_right {a b : Bytes} (hb : nm b = none) : aboveS a b = false := by unfold aboveS; rw [hb]; cases nm a <;> rfl

theorem refSame_ev (a b : ByteArray) : Ev (fun k => wimpleref1_Same.f k a b) (sameS (B a) (B b)) := by
  unfold wimpleref1_Same.f
  refine Ev.bind (refMay_ev a) ?_
  cases ha : nm (B a) with
  | none =>
    rw [sameS_left ha]
    exact Ev.neg (by simp) (Ev.pure _)
  | some x =>
    refine Ev.pos rfl (Ev.bind (refMay_ev b) ?_)
    cases hb : nm (B b) with
    | none =>
      rw [sameS_right hb]
      exact Ev.neg (by simp) (Ev.pure _)
    | some y =>
      refine Ev.pos rfl (Ev.bind (refFold_ev a) (Ev.bind (refFold_ev b) (Ev.eq (Ev.pure _) ?_)))
      rw [toL, toL, B_mk, B_mk, sameS_some ha hb, Bool.eq_iff_iff, beq_iff_eq, decide_eq_true_eq]
      exact fold_inj ha hb

theorem Places_nil : Ev (fun k => name_Places.f k (mkB [])) (([] : List Int), false) := by
  unfold name_Places.f
  refine Ev.neg (by decide) (Ev.step (fun k => by simp only [name_Places.l0]; rfl) (Ev.neg (by decide) (Ev.neg (by decide) (Ev.pure _))))

theorem extract_off (s : ByteArray) (ls : List Bytes) (hw : wire ls = B s) (i : Nat) (h : i ≤ ls.length) : B (s.extract (off ls i) s.size) = wire (ls.drop i) := by
  rw [B_extract, ← hw, drop_off ls i h, List.take_of_length_le]
  rw [← drop_off ls i h, List.length_drop, sz, hw]
  exact Nat.le_refl _

theorem nm_drop {s : Bytes} {ls : List Bytes} (h : nm s = some ls) (i : Nat) : nm (wire (ls.drop i)) = some (ls.drop i) := by
  obtain ⟨hg, hw, hl⟩ := nm_some.1 h
  refine nm_wire (fun l hl => hg l (List.mem_of_mem_drop hl)) ?_
  rcases Nat.lt_or_ge ls.length i with hi | hi
  · rw [List.drop_eq_nil_of_le (by omega)]
    decide
  · rw [← drop_off ls i hi, List.length_drop, hw]
    omega

end Go.Proofs.Ytojjkgnkdcekpaa.M
